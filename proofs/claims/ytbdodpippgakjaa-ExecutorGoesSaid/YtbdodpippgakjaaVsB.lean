/- This text proves a part of what the claim needs: regions, the logic, and contracts. No condition. -/
import Derived.Test.YtbdodpippgakjaaVsA
set_option linter.unusedSimpArgs false
set_option linter.unusedVariables false

/- New maps; entries of maps that are set and deleted. -/
namespace Go.Vs

theorem mpSet_at {k : IntKind} {n : Int} {d d0 : D} : ∀ {es : List (D × D)} {i : Nat}, es[i]? = some (.int k n, d0) →
    (∀ (j : Nat) (p : D × D), j < i → es[j]? = some p → ∃ b, p.1 = .int k b ∧ n ≠ b) → mpSet n d es = es.set i (.int k n, d)
  | [], i, h, _ => by simp at h
  | (kd, d1) :: es, 0, h, _ => by
    simp at h
    obtain ⟨rfl, rfl⟩ := h
    simp [mpSet]
  | (kd, d1) :: es, i + 1, h, hj => by
    obtain ⟨b, hb, hn⟩ := hj 0 (kd, d1) (by omega) rfl
    simp at hb
    subst hb
    simp only [mpSet, if_neg hn, List.set_cons_succ]
    rw [mpSet_at (by simpa using h) fun j p hlt hp => hj (j + 1) p (by omega) (by simpa using hp)]

theorem mpDel_at {k : IntKind} {n : Int} {d0 : D} : ∀ {es : List (D × D)} {i : Nat}, es[i]? = some (.int k n, d0) →
    (∀ (j : Nat) (p : D × D), j < i → es[j]? = some p → ∃ b, p.1 = .int k b ∧ n ≠ b) → mpDel n es = es.eraseIdx i
  | [], i, h, _ => by simp at h
  | (kd, d1) :: es, 0, h, _ => by
    simp at h
    obtain ⟨rfl, rfl⟩ := h
    simp [mpDel]
  | (kd, d1) :: es, i + 1, h, hj => by
    obtain ⟨b, hb, hn⟩ := hj 0 (kd, d1) (by omega) rfl
    simp at hb
    subst hb
    simp only [mpDel, if_neg hn, List.eraseIdx_cons_succ]
    rw [mpDel_at (by simpa using h) fun j p hlt hp => hj (j + 1) p (by omega) (by simpa using hp)]

theorem mpDel_none {k : IntKind} {n : Int} : ∀ {es : List (D × D)}, (∀ (i : Nat) (p : D × D), es[i]? = some p → ∃ b, p.1 = .int k b ∧ n ≠ b) → mpDel n es = es
  | [], _ => rfl
  | (kd, d1) :: es, hj => by
    obtain ⟨b, hb, hn⟩ := hj 0 (kd, d1) rfl
    simp at hb
    subst hb
    simp only [mpDel, if_neg hn]
    rw [mpDel_none fun i p hp => hj (i + 1) p (by simpa using hp)]

theorem sameBits_int (k : IntKind) (n : Int) : ∀ m, Instr.sameBits m (.int k n) (.int k n) = true := by
  intro m; cases m <;> simp [Instr.sameBits]

section
variable {P : Program} {tv : Tv} {o : Oper} {a : Act} {x : Cx} {tm : Nat → V} {base : Nat} {v : V} {hp' : HpF} {fp : Fp}

theorem wrote_map {w : World} {c : Nat} {obj : Obj} (hc : c < w.heap.size) : Wrote w { w with heap := w.heap.setIfInBounds c obj } c obj :=
  { os := rfl, tape := rfl, output := rfl, size := by simp, here := by simp [hc], other := fun d hd => by
      show (w.heap.setIfInBounds c obj)[d]? = _
      rw [Array.getElem?_setIfInBounds, if_neg (fun e => hd e.symm)] }

theorem run_setObj_map {w : World} {c : Nat} {ents : Array MapEntry} {clk : Nat} {obj : Obj} (hw : w.heap[c]? = some (.map ents clk)) :
    (setObj c obj).run P w = .ok () { w with heap := w.heap.setIfInBounds c obj } := by
  simp [setObj, Sem.run, hw]

theorem sim_makeMap {t : Nat} (ho : o.op = .makeMap t none) (hs : SRel x tm a) (hd : ∀ d, o.dst = some d → d < a.tmps.size) (hfr : ¬ x.U base)
    (hx : (sem tv base (operV tm) o).exec P x.hp v hp' fp) : Sim P o a x tm base v hp' := by
  simp only [sem, semOp, ho] at hx
  split at hx
  · obtain ⟨fp', ⟨rfl, rfl, _⟩, rfl⟩ := hx
    have hfre : Fr x ⟨x.w.alloc (.map #[] 0), upd x.γ base x.w.heap.size, upd x.hp base (.mp []), x.CM, (x.more base).U⟩ := new_fr ⟨rfl, rfl, rfl⟩ rfl
    have hev : Ev x.U x ⟨x.w.alloc (.map #[] 0), upd x.γ base x.w.heap.size, upd x.hp base (.mp []), x.CM, (x.more base).U⟩ :=
      new_ev (more_U x base) fun h => absurd h hfr
    refine Sim.of_value (v' := .map (some x.w.heap.size)) (w' := x.w.alloc (.map #[] 0)) hs hd ?_ (new_h hs.toHRel ⟨rfl, rfl, rfl⟩ rfl (more_U x base) (more_base x base) (fun h => absurd h hfr) ?_) ?_ hfre hev
    · simp [execOp, ho, Instr.makeMap]
    · refine ⟨x.w.heap.size, #[], 0, upd_same _ _ _, ?_, rfl, fun i p hi => by simp at hi, fun i p hi => by simp at hi⟩
      show (x.w.heap.push _)[_]? = _
      simp
    · exact .c _ _ (.mref base x.w.heap.size [] (upd_same _ _ _) (upd_same _ _ _) (more_base x base))
  · exact hx.elim

/-- A map block that is written. -/
theorem map_written {x1 : Cx} {b c : Nat} {es es' : List (D × D)} {ents ents' : Array MapEntry} {clk clk' : Nat} (h1 : HRel x1) (hb : x1.hp b = some (.mp es)) (hg : x1.γ b = some c)
    (hw : x1.w.heap[c]? = some (.map ents clk)) {U' : Nat → Prop} (hU : ∀ j, x1.U j → U' j) (he : Ents x1.w x1.ok ents'.toList es') :
    let w' : World := { x1.w with heap := x1.w.heap.setIfInBounds c (.map ents' clk') }
    HRel ⟨w', x1.γ, upd x1.hp b (.mp es'), x1.CM, U'⟩ ∧ Fr x1 ⟨w', x1.γ, upd x1.hp b (.mp es'), x1.CM, U'⟩ ∧ Ev x1.U x1 ⟨w', x1.γ, upd x1.hp b (.mp es'), x1.CM, U'⟩ := by
  have hwr := wrote_map (obj := .map ents' clk') (lt_of_heap hw)
  have hz : ∀ arr0 e0 fr0, x1.w.heap[c]? = some (.cells arr0 e0 fr0) → ∃ arr', Obj.map ents' clk' = .cells arr' e0 fr0 ∧ arr'.size = arr0.size := by
    intro arr0 e0 fr0 h0; rw [hw] at h0; cases h0
  have hevb : EvB x1 ⟨{ x1.w with heap := x1.w.heap.setIfInBounds c (.map ents' clk') }, x1.γ, upd x1.hp b (.mp es'), x1.CM, U'⟩ b := by
    unfold EvB
    rw [hb]
    exact .inr ⟨_, upd_same _ _ _, rfl⟩
  have hfr := set_fr (U' := U') (blk' := .mp es') hwr hb rfl hg hz
  refine ⟨set_h h1 hwr hb rfl hg hz hU hevb ⟨c, ents', clk', hg, hwr.here, by simpa using he.len, fun i p hi => ?_, fun i p hi => ?_⟩, hfr, set_ev hU hevb⟩
  · have := (he.key i p hi).mono hfr.okk
    simpa [List.getD_eq_getElem?_getD, Array.getD_eq_getD_getElem?] using this
  · have := (he.val i p hi).mono hfr.okk
    simpa [List.getD_eq_getElem?_getD, Array.getD_eq_getD_getElem?] using this

theorem sim_update {t : Nat} {m k z : Operand} (htv : TvOk P tv) (ho : o.op = .mapUpdate t m k z ∨ o.op = .insert t m k z) (hs : SRel x tm a) (hd : ∀ d, o.dst = some d → d < a.tmps.size)
    (hx : (sem tv base (operV tm) o).exec P x.hp v hp' fp) : Sim P o a x tm base v hp' := by
  have hx : (updV (tyOf tv t).sh (operV tm m) (operV tm k) (operV tm z)).exec P x.hp v hp' fp := by
    rcases ho with ho | ho <;> simpa only [sem, semOp, ho] using hx
  have hrun : ∀ w', (Instr.mapUpdate t (a.eval m) (a.eval k) (a.eval z)).run P x.w = .ok () w' → (execOp a.eval o).run P x.w = .ok .skip w' := by
    intro w' h
    rcases ho with ho | ho <;> simp [execOp, ho, h]
  unfold updV at hx
  split at hx
  · rename_i sh kk z0 hsh
    obtain ⟨d, hun, kt, et, ti, hdd, hkt, hti, hz, hzf⟩ := sh_of htv hsh (by simp)
    subst hdd
    unfold updateV at hx
    split at hx
    · rename_i b kd n y hm hk hzv
      split at hx
      · rename_i hkk
        subst hkk
        have e1 := hs.oper k
        rw [hk] at e1
        have e1 := e1.int_inv
        have e2 := hs.oper z
        rw [hzv] at e2
        obtain ⟨u, hu, e2⟩ : ∃ u, a.eval z = u ∧ CRel x u y := ⟨_, rfl, e2.c_inv⟩
        obtain ⟨dd, hp1, fp1, hx, hh1, hf1, he1, hdd⟩ := settle1_sim hs.toHRel e2 hx
        obtain ⟨blk, fp', hb, hx, rfl⟩ := hx
        dsimp only at hx
        have e3 := (hs.oper m).on hf1 he1
        rw [hm] at e3
        split at hx
        · rename_i es
          obtain ⟨ev, hev, e3⟩ : ∃ u, a.eval m = u ∧ CRel { x with hp := hp1 } u (.mref b) := ⟨_, rfl, e3.c_inv⟩
          cases e3 with
          | mrefOld _ _ _ _ h => rw [show ({ x with hp := hp1 } : Cx).hp b = hp1 b from rfl, hb] at h; simp at h
          | mref _ c es' hb2 hg hu2 =>
            have hb1 : ({ x with hp := hp1 } : Cx).hp b = some (.mp es) := hb
            rw [hb1] at hb2
            cases hb2
            obtain ⟨c', ents, clk, hg', hw, hsz, hkr, hvr⟩ := (hh1.hp b _ hb1).2
            rw [hg] at hg'
            cases hg'
            have he := Ents.of_arr hsz hkr hvr
            split at hx
            · rename_i d1 hl
              obtain ⟨fp2, ⟨rfl, rfl, _⟩, rfl⟩ := hx
              rcases findNow_sim (kk := kd) 0 he hl with ⟨hr, _⟩ | ⟨d', i, e', hr, g1, g2, g3, g4, g5, g6⟩
              · simp at hr
              cases hr
              have hel : i < ents.size := by have := (List.getElem?_eq_some_iff.1 g2).1; simpa using this
              have he' : ents[i]? = some e' := by simpa using g2
              have hEnts : Ents x.w ({ x with hp := hp1 } : Cx).ok ((ents.modify i fun e => { e with key := .int kd n, val := u }).toList) (mpSet n dd es) := by
                rw [mpSet_at g5 g6]
                refine ⟨by simp [hsz], fun j p hj => ?_, fun j p hj => ?_⟩
                · rw [List.getElem?_set] at hj
                  have e0 : ((ents.modify i fun e => { e with key := .int kd n, val := u }).toList.getD j default).key = if i = j then .int kd n else (ents.getD j default).key := by
                    simp only [List.getD_eq_getElem?_getD, Array.getElem?_toList, Array.getElem?_modify, Array.getD_eq_getD_getElem?]
                    split
                    · rename_i hij; subst hij; simp [he']
                    · rfl
                  rw [e0]
                  split at hj
                  · rename_i hij
                    split at hj
                    · cases hj; rw [if_pos hij]; exact .int _ _
                    · simp at hj
                  · rename_i hij; rw [if_neg hij]; exact hkr j p hj
                · rw [List.getElem?_set] at hj
                  have e0 : ((ents.modify i fun e => { e with key := .int kd n, val := u }).toList.getD j default).val = if i = j then u else (ents.getD j default).val := by
                    simp only [List.getD_eq_getElem?_getD, Array.getElem?_toList, Array.getElem?_modify, Array.getD_eq_getD_getElem?]
                    split
                    · rename_i hij; subst hij; simp [he']
                    · rfl
                  rw [e0]
                  split at hj
                  · rename_i hij
                    split at hj
                    · cases hj; rw [if_pos hij]; exact hdd
                    · simp at hj
                  · rename_i hij; rw [if_neg hij]; exact hvr j p hj
              obtain ⟨q1, q2, q3⟩ := map_written (clk' := clk) (U' := (x.more base).U) hh1 hb1 hg hw (more_U x base) hEnts
              refine Sim.of_skip hs hd (hrun _ ?_) q1 (hf1.trans q2) (he1.trans q3)
              have hw' : x.w.heap[c]? = some (.map ents clk) := hw
              simp only [Instr.mapUpdate, Sem.run_bind, run_und hun, Result.andThen_ok, hev, e1, hu, run_getObj_map hw', run_checkKey_int hkt false 9999, run_findKey_int hkt g1, Nat.zero_add, he', Option.map_some,
                Option.getD_some, g4, Instr.keyThatStays, sameBits_int, if_true, Sem.run_pure, run_setObj_map hw']
            · rename_i hl
              obtain ⟨fp2, ⟨rfl, rfl, _⟩, rfl⟩ := hx
              rcases findNow_sim (kk := kd) 0 he hl with ⟨_, g1, g2⟩ | ⟨d', i, e', hr, _⟩
              · have hEnts : Ents x.w ({ x with hp := hp1 } : Cx).ok ((ents.push { key := .int kd n, val := u, born := clk }).toList) (es ++ [(.int kd n, dd)]) := by
                  refine ⟨by simp [hsz], fun j p hj => ?_, fun j p hj => ?_⟩
                  · rw [Array.toList_push]
                    by_cases hjl : j < es.length
                    · rw [List.getElem?_append_left hjl] at hj
                      have := hkr j p hj
                      have hj2 : j < ents.size := by omega
                      simpa [List.getD_eq_getElem?_getD, List.getElem?_append, hj2, Array.getD_eq_getD_getElem?] using this
                    · have hjl' : j = es.length := by
                        have := (List.getElem?_eq_some_iff.1 hj).1
                        simp at this
                        omega
                      subst hjl'
                      simp at hj
                      subst hj
                      simp [List.getD_eq_getElem?_getD, ← hsz]
                      exact .int _ _
                  · rw [Array.toList_push]
                    by_cases hjl : j < es.length
                    · rw [List.getElem?_append_left hjl] at hj
                      have := hvr j p hj
                      have hj2 : j < ents.size := by omega
                      simpa [List.getD_eq_getElem?_getD, List.getElem?_append, hj2, Array.getD_eq_getD_getElem?] using this
                    · have hjl' : j = es.length := by
                        have := (List.getElem?_eq_some_iff.1 hj).1
                        simp at this
                        omega
                      subst hjl'
                      simp at hj
                      subst hj
                      simp [List.getD_eq_getElem?_getD, ← hsz]
                      exact hdd
                obtain ⟨q1, q2, q3⟩ := map_written (clk' := clk + 1) (U' := (x.more base).U) hh1 hb1 hg hw (more_U x base) hEnts
                refine Sim.of_skip hs hd (hrun _ ?_) q1 (hf1.trans q2) (he1.trans q3)
                have hw' : x.w.heap[c]? = some (.map ents clk) := hw
                simp only [Instr.mapUpdate, Sem.run_bind, run_und hun, Result.andThen_ok, hev, e1, hu, run_getObj_map hw', run_checkKey_int hkt false 9999, run_findKey_int hkt g1, run_setObj_map hw']
              · simp at hr
            · exact hx.elim
        · exact hx.elim
      · exact hx.elim
    · exact hx.elim
  · exact hx.elim

theorem sim_delete {args : Array Operand} {ts : Array Nat} {t : Nat} {t2 : Nat} {m k : V} {kk : IntKind} {z0 : D} (htv : TvOk P tv)
    (ho : o.op = .call { callee := .builtin .delete, args := args, argTypes := ts }) (hts : ts.toList = [t, t2]) (hy : args.toList.map (operV tm) = [m, k]) (hsh : (tyOf tv t).sh = .map kk z0)
    (hs : SRel x tm a) (hd : ∀ d, o.dst = some d → d < a.tmps.size) (hx : (deleteV kk m k).exec P x.hp v hp' fp) : Sim P o a x tm base v hp' := by
  obtain ⟨d, hun, kt, et, ti, hdd, hkt, hti, hz, hzf⟩ := sh_of htv hsh (by simp)
  subst hdd
  obtain ⟨h1, h2⟩ := args_list hs hy
  obtain ⟨u1, hu1, hc1⟩ := h2 0 _ rfl
  obtain ⟨u2, hu2, hc2⟩ := h2 1 _ rfl
  have hargs := arr2 h1 hu1 hu2
  have htss : ts = #[t, t2] := by apply Array.ext'; simpa using hts
  unfold deleteV at hx
  split at hx
  · rename_i b kd n
    split at hx
    · rename_i hkk
      subst hkk
      have e1 := hc2.int_inv
      subst e1
      obtain ⟨blk, fp', hb, hx, rfl⟩ := hx
      dsimp only at hx
      split at hx
      · rename_i es
        cases hc1 with | c _ _ hc1 => cases hc1 with
          | mrefOld _ _ _ _ h => rw [hb] at h; simp at h
          | mref _ c es' hb2 hg hu2' =>
            rw [hb] at hb2
            cases hb2
            obtain ⟨c', ents, clk, hg', hw, hsz, hkr, hvr⟩ := (hs.hp b _ hb).2
            rw [hg] at hg'
            cases hg'
            have he := Ents.of_arr hsz hkr hvr
            have hrun : ∀ w', (Builtin.delete_ #[t, t2] o.type #[.map (some c), .int kd n]).run P x.w = .ok (.tuple #[]) w' → (execOp a.eval o).run P x.w = .ok (.value (.tuple #[])) w' := by
              intro w' h
              exact run_builtin ho fun cs => by rw [hargs, htss]; simp [builtin, h]
            split at hx
            · rename_i r hl
              obtain ⟨fp2, ⟨rfl, rfl, _⟩, rfl⟩ := hx
              rcases findNow_sim (kk := kd) 0 he hl with ⟨hr, g1, g2⟩ | ⟨d', i, e', hr, g1, g2, g3, g4, g5, g6⟩
              · rw [mpDel_none g2]
                obtain ⟨q1, q2, q3⟩ := map_written (clk' := clk) (U' := (x.more base).U) hs.toHRel hb hg hw (more_U x base) he
                refine Sim.of_value hs hd (hrun _ ?_) q1 (.tup #[] [] rfl fun j y hj => by simp at hj) q2 q3
                simp [Builtin.delete_, run_und hun, run_getObj_map hw, run_checkKey_int hkt, run_findKey_int hkt g1, run_setObj_map hw]
              · rw [mpDel_at g5 g6]
                have hel : i < ents.size := by have := (List.getElem?_eq_some_iff.1 g2).1; simpa using this
                have hEnts : Ents x.w x.ok ((ents.eraseIdxIfInBounds i).toList) (es.eraseIdx i) := by
                  have e0 : (ents.eraseIdxIfInBounds i).toList = ents.toList.eraseIdx i := by simp [Array.eraseIdxIfInBounds, hel]
                  rw [e0]
                  refine ⟨by simp [List.length_eraseIdx, hsz], fun j p hj => ?_, fun j p hj => ?_⟩
                  · rw [List.getElem?_eraseIdx] at hj
                    have e1 : (ents.toList.eraseIdx i).getD j default = if j < i then ents.toList.getD j default else ents.toList.getD (j + 1) default := by
                      simp only [List.getD_eq_getElem?_getD, List.getElem?_eraseIdx]
                      split <;> rfl
                    rw [e1]
                    split at hj
                    · rename_i hji; rw [if_pos hji]; exact he.key j p hj
                    · rename_i hji; rw [if_neg hji]; exact he.key (j + 1) p hj
                  · rw [List.getElem?_eraseIdx] at hj
                    have e1 : (ents.toList.eraseIdx i).getD j default = if j < i then ents.toList.getD j default else ents.toList.getD (j + 1) default := by
                      simp only [List.getD_eq_getElem?_getD, List.getElem?_eraseIdx]
                      split <;> rfl
                    rw [e1]
                    split at hj
                    · rename_i hji; rw [if_pos hji]; exact he.val j p hj
                    · rename_i hji; rw [if_neg hji]; exact he.val (j + 1) p hj
                obtain ⟨q1, q2, q3⟩ := map_written (clk' := clk) (U' := (x.more base).U) hs.toHRel hb hg hw (more_U x base) hEnts
                refine Sim.of_value hs hd (hrun _ ?_) q1 (.tup #[] [] rfl fun j y hj => by simp at hj) q2 q3
                simp [Builtin.delete_, run_und hun, run_getObj_map hw, run_checkKey_int hkt, run_findKey_int hkt g1, run_setObj_map hw]
            · exact hx.elim
      · exact hx.elim
    · exact hx.elim
  · exact hx.elim

end
end Go.Vs

/- Appending. -/
namespace Go.Vs

/-- What is appended: nothing, or a row of cells that read as the elements. -/
structure News (x : Cx) (ev : Value) (esz : Nat) (ys : List (List D)) : Prop where
  all : ∀ cs ∈ ys, cs.length = esz
  row : (ev = .slice none 0 0 ∧ ys = []) ∨ ∃ (ad : Addr) (cap : Nat) (news : List Value), ev = .slice (some ad) ys.length cap ∧ news.length = ys.length * esz ∧
    (∀ (j : Nat) (u : Value), news[j]? = some u → x.w.cell? (ad.add j) = some u) ∧ (∀ u ∈ news, u.oneCell' = true) ∧
    ∀ (i : Nat) (cs : List D) (j : Nat) (y : D), ys[i]? = some cs → cs[j]? = some y → DRel x.w x.ok (news.getD (i * esz + j) undef) y

theorem idx_of {esz n k : Nat} (h : k < n * esz) : ∃ i j, k = i * esz + j ∧ i < n ∧ j < esz := by
  have hpos : 0 < esz := by
    rcases Nat.eq_zero_or_pos esz with h0 | h0
    · subst h0; simp at h
    · exact h0
  refine ⟨k / esz, k % esz, ?_, Nat.div_lt_of_lt_mul (by rwa [Nat.mul_comm]), Nat.mod_lt _ hpos⟩
  rw [Nat.mul_comm]
  exact (Nat.div_add_mod k esz).symm

theorem news_of_arr {x : Cx} {c off cap esz : Nat} {ys : List (List D)} {arr : Array Value} {e : TypeId} {fr : Nat × Nat} (hw : x.w.heap[c]? = some (.cells arr e fr))
    (hsz : off + ys.length * esz ≤ arr.size) (hall : ∀ cs ∈ ys, cs.length = esz)
    (hr : ∀ (i : Nat) (cs : List D) (j : Nat) (y : D), ys[i]? = some cs → cs[j]? = some y → DRel x.w x.ok (arr.getD (off + (i * esz + j)) undef) y) :
    News x (.slice (some ⟨c, off, none⟩) ys.length cap) esz ys := by
  have get : ∀ k, k < ys.length * esz → ((arr.toList.drop off).take (ys.length * esz)).getD k undef = arr.getD (off + k) undef := by
    intro k hk
    have h5 : off + k < arr.size := by omega
    simp only [List.getD_eq_getElem?_getD, List.getElem?_take, if_pos hk, List.getElem?_drop, Array.getD_eq_getD_getElem?, Array.getElem?_toList]
  have row : ∀ (i : Nat) (cs : List D) (j : Nat) (y : D), ys[i]? = some cs → cs[j]? = some y → DRel x.w x.ok (((arr.toList.drop off).take (ys.length * esz)).getD (i * esz + j) undef) y := by
    intro i cs j y hi hj
    have h1 : i < ys.length := (List.getElem?_eq_some_iff.1 hi).1
    have h2 : j < esz := by rw [← hall cs (List.mem_of_getElem? hi)]; exact (List.getElem?_eq_some_iff.1 hj).1
    have h3 : (i + 1) * esz ≤ ys.length * esz := Nat.mul_le_mul_right _ h1
    rw [Nat.succ_mul] at h3
    rw [get _ (by omega)]
    exact hr i cs j y hi hj
  refine ⟨hall, .inr ⟨⟨c, off, none⟩, cap, (arr.toList.drop off).take (ys.length * esz), rfl, by simp; omega, fun j u hj => ?_, fun u hu => ?_, row⟩⟩
  · have hk : j < ys.length * esz := by
      have := (List.getElem?_eq_some_iff.1 hj).1
      simp at this
      omega
    rw [add_none, cell_of hw (by omega), ← get j hk]
    simp [List.getD_eq_getElem?_getD, hj]
  · obtain ⟨k, hk⟩ := List.getElem?_of_mem hu
    have hkl : k < ys.length * esz := by
      have := (List.getElem?_eq_some_iff.1 hk).1
      simp at this
      omega
    obtain ⟨i, j, rfl, hi, hj⟩ := idx_of hkl
    have h1 : ys[i]? = some ys[i] := by simp [hi]
    have h2 : ys[i].length = esz := hall _ (List.getElem_mem hi)
    have h3 : ys[i][j]? = some ys[i][j] := by simp [h2, hj]
    have := (row i ys[i] j _ h1 h3).one
    rw [List.getD_eq_getElem?_getD, hk] at this
    exact Value.oneCell'_of this

section
variable {P : Program} {tv : Tv} {o : Oper} {a : Act} {x : Cx} {tm : Nat → V} {base : Nat} {v : V} {hp' : HpF} {fp : Fp}

theorem elemsOf_sim {esz : Nat} {y : V} {ev : Value} {k : List (List D) → Prog} (hs : HRel x) (hc : VRel x ev y) (hx : (elemsOf esz y k).exec P x.hp v hp' fp) :
    ∃ ys fp', (k ys).exec P x.hp v hp' fp' ∧ News x ev esz ys := by
  unfold elemsOf at hx
  split at hx
  · have := hc.nilSl_inv
    subst this
    exact ⟨[], fp, hx, ⟨fun cs h => by simp at h, .inl ⟨rfl, rfl⟩⟩⟩
  · cases hc.c_inv.d_inv with
    | slE ad cap => exact ⟨[], fp, hx, ⟨fun cs h => by simp at h, .inr ⟨ad, cap, [], rfl, by simp, fun j u h => by simp at h, fun u h => by simp at h, fun i cs j y h => by simp at h⟩⟩⟩
  · rename_i e es
    obtain ⟨rfl, hx⟩ := hx
    refine ⟨es, fp, hx, ?_⟩
    cases hc.c_inv.d_inv with
    | slNil => exact ⟨fun cs h => by simp at h, .inl ⟨rfl, rfl⟩⟩
    | slNone ad cap => exact ⟨fun cs h => by simp at h, .inr ⟨ad, cap, [], rfl, by simp, fun j u h => by simp at h, fun u h => by simp at h, fun i cs j y h => by simp at h⟩⟩
    | sl c off cap _ _ arr e fr hcap hok hw hsz hlen hr => exact news_of_arr hw hsz hlen hr
  · rename_i b g off n
    obtain ⟨blk, fp', hb, hx, rfl⟩ := hx
    dsimp only at hx
    split at hx
    · rename_i e es fz
      obtain ⟨⟨rfl, hl, hon⟩, hx⟩ := hx
      refine ⟨_, _, hx, ?_⟩
      cases hc.c_inv with
      | refNil _ _ _ hb2 hu2 =>
        rw [hb] at hb2
        cases hb2
        exact ⟨fun cs h => by simp at h, .inl ⟨rfl, by simp⟩⟩
      | ref _ c _ _ cap esz' es' fz' arr et fr hb2 hg hw h1 h2 h3 hu2 =>
        rw [hb] at hb2
        cases hb2
        obtain ⟨hll, h0 | ⟨c', arr', e', hg', hw', hasz, har⟩⟩ := (hs.hp b _ hb).2
        · rw [hg] at h0; simp at h0
        · rw [hg] at hg'
          cases hg'
          have hlen : ((es.drop off).take n).length = n := by simp; omega
          have := news_of_arr (x := x) (c := c) (off := off * e) (cap := cap) (ys := (es.drop off).take n) hw'
            (by rw [hlen, ← Nat.add_mul]; exact Nat.le_trans (Nat.mul_le_mul_right _ (by omega)) hasz)
            (fun cs hcs => hll cs (List.mem_of_mem_drop (List.mem_of_mem_take hcs)))
            (fun i cs j y hi hj => by
              rw [List.getElem?_take] at hi
              split at hi
              · rw [List.getElem?_drop] at hi
                have := har (off + i) cs j y hi hj
                rw [show off * e + (i * e + j) = (off + i) * e + j by rw [Nat.add_mul]; omega]
                exact this
              · simp at hi)
          rw [hlen] at this
          exact this
      | refOld _ _ _ _ _ _ _ h =>
        rcases h with h | ⟨_, _, _, h, hl2⟩
        · rw [hb] at h; simp at h
        · rw [hb] at h; cases h; omega
    · exact hx.elim
  · exact hx.elim

/-- Old elements and new ones, in one row. -/
theorem content_append {w : World} {ok : Nat → Prop} {esz : Nat} {es ys : List (List D)} {A : Nat → Value} {arr : Array Value} {news : List Value}
    (he : ∀ cs ∈ es, cs.length = esz) (hy : ∀ cs ∈ ys, cs.length = esz)
    (h1 : ∀ k, k < es.length * esz → A k = arr.getD k undef) (h2 : ∀ k, k < ys.length * esz → A (es.length * esz + k) = news.getD k undef)
    (ho : ∀ i cs j y, es[i]? = some cs → cs[j]? = some y → DRel w ok (arr.getD (i * esz + j) undef) y)
    (hn : ∀ i cs j y, ys[i]? = some cs → cs[j]? = some y → DRel w ok (news.getD (i * esz + j) undef) y) :
    ∀ i cs j y, (es ++ ys)[i]? = some cs → cs[j]? = some y → DRel w ok (A (i * esz + j)) y := by
  intro i cs j y hi hj
  have hjl : cs.length = esz → j < esz := fun h => by rw [← h]; exact (List.getElem?_eq_some_iff.1 hj).1
  by_cases hil : i < es.length
  · rw [List.getElem?_append_left hil] at hi
    have hj' := hjl (he cs (List.mem_of_getElem? hi))
    have h3 : (i + 1) * esz ≤ es.length * esz := Nat.mul_le_mul_right _ hil
    rw [Nat.succ_mul] at h3
    rw [h1 _ (by omega)]
    exact ho i cs j y hi hj
  · rw [List.getElem?_append_right (by omega)] at hi
    have hj' := hjl (hy cs (List.mem_of_getElem? hi))
    have hil2 : i - es.length < ys.length := (List.getElem?_eq_some_iff.1 hi).1
    have h3 : (i - es.length + 1) * esz ≤ ys.length * esz := Nat.mul_le_mul_right _ hil2
    rw [Nat.succ_mul] at h3
    have e : i * esz + j = es.length * esz + ((i - es.length) * esz + j) := by
      rw [← Nat.add_assoc, ← Nat.add_mul]
      congr 2
      omega
    rw [e, h2 _ (by omega)]
    exact hn _ cs j y hi hj

theorem getD_append_l {l1 l2 : List Value} {k : Nat} (h : k < l1.length) : (l1 ++ l2).getD k undef = l1.getD k undef := by
  simp [List.getD_eq_getElem?_getD, List.getElem?_append_left h]
theorem getD_append_r {l1 l2 : List Value} {k : Nat} : (l1 ++ l2).getD (l1.length + k) undef = l2.getD k undef := by
  simp [List.getD_eq_getElem?_getD, List.getElem?_append_right]

theorem upd_id {H : HpF} {b : Nat} {blk : Blk} (h : H b = some blk) : upd H b blk = H := by
  funext j
  unfold upd
  split
  · rename_i hj; subst hj; exact h.symm
  · rfl

section runs
variable {t ty e : Nat} {i : TypeInfo} {z : Value} {w : World} {esz : Nat}

theorem run_append_same {s ev : Value} {b : Option Addr} {g cap : Nat} (ht : P.underlying t = some (.slice e)) (hi : P.info? e = some i) (hsv : s = .slice b g cap) (hcap : g ≤ cap)
    (hev : ev = .slice none 0 0 ∨ ∃ ad c, ev = .slice (some ad) 0 c) : (Builtin.append_ #[t, t] ty #[s, ev]).run P w = .ok s w := by
  subst hsv
  rcases hev with rfl | ⟨ad, c, rfl⟩
  · cases b <;> simp [Builtin.append_, run_und ht, run_size hi, Builtin.lenOf, hcap, Builtin.firstCells, storeCells]
  · cases b <;> simp [Builtin.append_, run_und ht, run_size hi, Builtin.lenOf, hcap, Builtin.firstCells, loadCells, loadCellsFrom, storeCells]

theorem run_append_room' (ht : P.underlying t = some (.slice e)) (hi : P.info? e = some i) (g sLen sCap : Nat) (cur : Array Value) (et : TypeId) (hg : w.heap[g]? = some (.cells cur et (0, 0)))
    (ad : Addr) (m c : Nat) (news : List Value) (hl : news.length = m * i.size) (hnews : ∀ (j : Nat) (u : Value), news[j]? = some u → w.cell? (ad.add j) = some u) (h1 : ∀ u ∈ news, u.oneCell' = true)
    (hroom : sLen + m ≤ sCap) (hfit : sLen * i.size + news.length ≤ cur.size) :
    (Builtin.append_ #[t, t] ty #[.slice (some ⟨g, 0, none⟩) sLen sCap, .slice (some ad) m c]).run P w =
      .ok (.slice (some ⟨g, 0, none⟩) (sLen + m) sCap) (w.setRow g (splice cur.toList (sLen * i.size) news).toArray) := by
  have hf := run_firstCells_some (P := P) w i.size m ad m c news hl hnews
  have hst := run_storeCells_at P g (sLen * i.size) et news 0 cur w hg (by simpa using hfit) h1
  simp only [Nat.add_zero] at hst
  simp [Builtin.append_, run_und ht, run_size hi, Builtin.lenOf, hroom, hf, Addr.add_lit, hst, splice]
end runs


theorem sim_append {args : Array Operand} {ts : Array Nat} {t : Nat} {rest : List Nat} {sv xv : V} {esz eb : Nat} {ez : List D} (htv : TvOk P tv)
    (ho : o.op = .call { callee := .builtin .append, args := args, argTypes := ts }) (hts : ts.toList = t :: t :: rest) (hrest : rest = []) (hy : args.toList.map (operV tm) = [sv, xv])
    (hsh : (tyOf tv t).sh = .slc esz eb ez) (hs : SRel x tm a) (hd : ∀ d, o.dst = some d → d < a.tmps.size) (hfr : ¬ x.U base)
    (hx : (appendV base esz eb sv xv).exec P x.hp v hp' fp) : Sim P o a x tm base v hp' := by
  subst hrest
  obtain ⟨e, ti, z, hu, hti, hsz, hby, hz, hzc, hpos, hflat, hezl, hebpos⟩ := slc_of htv hsh
  obtain ⟨h1, h2⟩ := args_list hs hy
  obtain ⟨s0, hs0, hc1⟩ := h2 0 _ rfl
  obtain ⟨e0, he0, hc2⟩ := h2 1 _ rfl
  have hargs := arr2 h1 hs0 he0
  have htss : ts = #[t, t] := by apply Array.ext'; simpa using hts
  have hzs : z.cells.size = esz := by rw [hzc]; simp [hezl]
  have hrun : ∀ u w', (Builtin.append_ #[t, t] o.type #[s0, e0]).run P x.w = .ok u w' → (execOp a.eval o).run P x.w = .ok (.value u) w' := by
    intro u w' h
    exact run_builtin ho fun cs => by rw [hargs, htss]; simp [builtin, h]
  -- a bound on bytes is a bound on elements
  have small : ∀ n, n * eb ≤ mostBytes → n ≤ 70368744177664 ∧ n * ti.bytes ≤ 140737488355328 := by
    intro n hn
    have := Nat.le_trans (Nat.le_mul_of_pos_right n hebpos) hn
    unfold mostBytes at *
    rw [hby]
    omega
  -- nothing at all, before a row of new cells
  have fromNil : ∀ ys, News x e0 esz ys → ys ≠ [] → s0 = .slice none 0 0 → ys.length * eb ≤ mostBytes →
      ∃ cap news, (execOp a.eval o).run P x.w = .ok (.value (.slice (some ⟨x.w.heap.size, 0, none⟩) ys.length cap)) (x.w.drew.alloc (.cells (news ++ Builtin.zeroCells z.cells (cap - ys.length)) e)) ∧
        ys.length ≤ cap ∧ news.size = ys.length * esz ∧ ∀ i cs j y, ys[i]? = some cs → cs[j]? = some y → DRel x.w x.ok (news.getD (i * esz + j) undef) y := by
    intro ys hn hne hsn hb
    have hpos2 : 0 < ys.length := List.length_pos_iff.2 hne
    obtain ⟨b1, b2⟩ := small _ hb
    rcases hn.row with ⟨_, h⟩ | ⟨ad, c, news, hev, hnl, hcell, hone, hrow⟩
    · exact absurd h hne
    · refine ⟨grownCap x.w ys.length 0 e, news.toArray, hrun _ _ ?_, grownCap_ge _ _ _ _, by simpa using hnl, fun i cs j y hi hj => by
        simpa [Array.getD_eq_getD_getElem?, List.getD_eq_getElem?_getD] using hrow i cs j y hi hj⟩
      rw [hsn, hev]
      exact run_append_nil (P := P) x.w t o.type e ti z hu hti hz ad ys.length c news (by rw [hsz]; exact hnl) hcell hpos2 (by omega) (by omega)
  unfold appendV at hx
  split at hx
  · -- a nil slice
    obtain ⟨ys, fp', hx, hn⟩ := elemsOf_sim hs.toHRel hc2 hx
    have hsn := hc1.nilSl_inv
    split at hx
    · rename_i hnil
      subst hnil
      refine sim_ret (v' := .slice none 0 0) hs hd hx (hrun _ _ ?_) (.c _ _ (.d _ _ .nilSl))
      rw [hsn]
      refine run_append_same (b := none) (g := 0) (cap := 0) hu hti rfl (Nat.le_refl _) ?_
      rcases hn.row with ⟨h, _⟩ | ⟨ad, c, _, h, _⟩
      · exact .inl h
      · exact .inr ⟨ad, c, by simpa using h⟩
    · rename_i hne
      obtain ⟨hb, hx⟩ := hx
      obtain ⟨cap, news, hr, hcap, hns, hrow⟩ := fromNil ys hn hne hsn hb
      refine sim_newSl (x1 := x) (cap := cap) hs hd hfr hs.toHRel (Fr.refl x) (Ev.refl fun _ h => h) ⟨rfl, rfl⟩ (x.w.drew.alloc (.cells (news ++ Builtin.zeroCells z.cells (cap - ys.length)) e)) ⟨rfl, rfl, rfl⟩ rfl hr rfl hcap ?_ hn.all (fun i cs j y hi hj => ?_) hx
      · rw [Array.size_append, hns, size_zeroCells, hzs, ← Nat.add_mul]
        exact Nat.mul_le_mul_right _ (by omega)
      · have h1 : i < ys.length := (List.getElem?_eq_some_iff.1 hi).1
        have h2 : j < esz := by rw [← hn.all cs (List.mem_of_getElem? hi)]; exact (List.getElem?_eq_some_iff.1 hj).1
        have h3 : (i + 1) * esz ≤ ys.length * esz := Nat.mul_le_mul_right _ h1
        rw [Nat.succ_mul] at h3
        have h4 : i * esz + j < news.size := by omega
        have := hrow i cs j y hi hj
        simpa [Array.getD_eq_getD_getElem?, Array.getElem?_append_left h4] using this
  · -- a slice of the call's own
    rename_i b g off n
    obtain ⟨ys, fp', hx, hn⟩ := elemsOf_sim hs.toHRel hc2 hx
    obtain ⟨blk, fp2, hb, hx, rfl⟩ := hx
    dsimp only at hx
    split at hx
    · rename_i e' es
      obtain ⟨⟨rfl, hl, hoff, hng, hbytes⟩, fp3, ⟨rfl, rfl, _⟩, rfl⟩ := hx
      subst hoff
      subst hng
      have hUb := (hs.hp b _ hb).1
      have hBb := (hs.hp b _ hb).2
      by_cases hne : ys = []
      · -- nothing is appended
        subst hne
        have hev : e0 = .slice none 0 0 ∨ ∃ ad c, e0 = .slice (some ad) 0 c := by
          rcases hn.row with ⟨h, _⟩ | ⟨ad, c, _, h, _⟩
          · exact .inl h
          · exact .inr ⟨ad, c, by simpa using h⟩
        have hid : upd x.hp b (.sl e' (es ++ []) false) = x.hp := by rw [List.append_nil]; exact upd_id hb
        rw [hid]
        simp only [List.length_nil, Nat.add_zero]
        cases hc1.c_inv with
        | refNil _ _ _ hb2 hu2 =>
          exact .of_read hs hd (hrun _ _ (run_append_same (b := none) (g := 0) (cap := 0) hu hti rfl (Nat.le_refl _) hev)) (.c _ _ (.refNil b _ _ hb2 hu2))
        | ref _ c _ _ cap esz' es' fz' arr et fr hb2 hg hw h3 h4 h5 hu2 =>
          exact .of_read hs hd (hrun _ _ (run_append_same hu hti rfl h4 hev)) (.c _ _ (.ref b c 0 _ cap esz' es' fz' arr et fr hb2 hg hw h3 h4 h5 hu2))
        | refOld _ _ _ _ _ _ _ h =>
          rcases h with h | ⟨_, _, _, h, hl2⟩
          · rw [hb] at h; simp at h
          · rw [hb] at h; cases h; omega
      · -- a row of new cells
        have hpos2 : 0 < ys.length := List.length_pos_iff.2 hne
        obtain ⟨b1, b2⟩ := small _ hbytes
        have hlen2 : es.length + ys.length = (es ++ ys).length := by simp
        -- the block stands in a new place
        have moved : ∀ (w2 : World) (A : Array Value) (cap : Nat), Like x.w w2 → w2.heap = x.w.heap.push (.cells A e) →
            (execOp a.eval o).run P x.w = .ok (.value (.slice (some ⟨x.w.heap.size, 0, none⟩) (es.length + ys.length) cap)) w2 → es.length + ys.length ≤ cap → cap * e' ≤ A.size →
            (∀ i cs j y, (es ++ ys)[i]? = some cs → cs[j]? = some y → DRel x.w x.ok (A.getD (i * e' + j) undef) y) →
            Sim P o a x tm base (.c (.ref b (n + ys.length) 0 (n + ys.length))) (upd x.hp b (.sl e' (es ++ ys) false)) := by
          intro w2 A cap hlike hheap hr hcap hsz2 hcont
          have hevb : ∀ U', x.U b → EvB x ⟨w2, upd x.γ b x.w.heap.size, upd x.hp b (.sl e' (es ++ ys) false), x.CM, U'⟩ b := by
            intro U' _
            unfold EvB
            rw [hb]
            exact .inr ⟨_, _, upd_same _ _ _, .inr (by simp; omega)⟩
          have hfre : Fr x ⟨w2, upd x.γ b x.w.heap.size, upd x.hp b (.sl e' (es ++ ys) false), x.CM, (x.more base).U⟩ := new_fr hlike hheap
          have hnew : w2.heap[x.w.heap.size]? = some (.cells A e) := by rw [hheap]; simp
          refine Sim.of_value hs hd hr (new_h hs.toHRel hlike hheap (more_U x base) (more_U x base _ hUb) (hevb _)
            ⟨fun cs hcs => (List.mem_append.1 hcs).elim (hBb.1 cs) (hn.all cs), .inr ⟨x.w.heap.size, A, e, upd_same _ _ _, hnew, ?_, fun i cs j y hi hj => (hcont i cs j y hi hj).on hfre⟩⟩) ?_ hfre
            (new_ev (more_U x base) (hevb _))
          · rw [← hlen2]; exact Nat.le_trans (Nat.mul_le_mul_right _ hcap) hsz2
          · have := CRel.ref (x := ⟨w2, upd x.γ b x.w.heap.size, upd x.hp b (.sl e' (es ++ ys) false), x.CM, (x.more base).U⟩) b x.w.heap.size 0 (es.length + ys.length) cap e' (es ++ ys) false A e (0, 0)
              (upd_same _ _ _) (upd_same _ _ _) hnew (by simp) hcap (by simpa using hsz2) (more_U x base _ hUb)
            rw [Nat.zero_mul, ← hlen2] at this
            rw [← hl]
            exact .c _ _ this
        cases hc1.c_inv with
        | refNil _ _ _ hb2 hu2 =>
          rw [hb] at hb2
          cases hb2
          obtain ⟨cap, news, hr, hcap, hns, hrow⟩ := fromNil ys hn hne rfl (by simpa using hbytes)
          refine moved (x.w.drew.alloc (.cells (news ++ Builtin.zeroCells z.cells (cap - ys.length)) e)) _ cap ⟨rfl, rfl, rfl⟩ rfl (by simpa using hr) (by simpa using hcap) ?_ (fun i cs j y hi hj => ?_)
          · rw [Array.size_append, hns, size_zeroCells, hzs, ← Nat.add_mul]
            exact Nat.mul_le_mul_right _ (by omega)
          · simp only [List.nil_append] at hi
            have h1 : i < ys.length := (List.getElem?_eq_some_iff.1 hi).1
            have h2 : j < e' := by rw [← hn.all cs (List.mem_of_getElem? hi)]; exact (List.getElem?_eq_some_iff.1 hj).1
            have h3 : (i + 1) * e' ≤ ys.length * e' := Nat.mul_le_mul_right _ h1
            rw [Nat.succ_mul] at h3
            have h4 : i * e' + j < news.size := by omega
            have := hrow i cs j y hi hj
            simpa [Array.getD_eq_getD_getElem?, Array.getElem?_append_left h4] using this
        | ref _ c _ _ cap esz' es' fz' arr0 et0 fr0 hb2 hg hw0 h3 h4 h5 hu2 =>
          rw [hb] at hb2
          cases hb2
          obtain ⟨hll, h0 | ⟨c', arr, et, hg', hw, hasz, har⟩⟩ := hBb
          · rw [hg] at h0; simp at h0
          rw [hg] at hg'
          cases hg'
          rw [hw0] at hw
          cases hw
          simp only [Nat.zero_mul, Nat.zero_add] at *
          rcases hn.row with ⟨_, h⟩ | ⟨ad, cc, news, hev, hnl, hcell, hone, hrow⟩
          · exact absurd h hne
          by_cases hroom : es.length + ys.length ≤ cap
          · -- there is room
            have hfit : es.length * e' + news.length ≤ arr0.size := by rw [hnl, ← Nat.add_mul]; exact Nat.le_trans (Nat.mul_le_mul_right _ hroom) h5
            have hr := run_append_room' (P := P) (ty := o.type) (w := x.w) hu hti c es.length cap arr0 et0 hw0 ad ys.length cc news (by rw [hsz]; exact hnl) hcell hone hroom (by rw [hsz]; exact hfit)
            rw [← hev, hsz] at hr
            have hwr := wrote_setRow (arr' := (splice arr0.toList (es.length * e') news).toArray) hw0
            have hzz : ∀ arr1 e1 fr1, x.w.heap[c]? = some (.cells arr1 e1 fr1) → ∃ arr0', Obj.cells (splice arr0.toList (es.length * e') news).toArray et0 (0, 0) = .cells arr0' e1 fr1 ∧ arr0'.size = arr1.size := by
              intro arr1 e1 fr1 h0
              rw [hw0] at h0
              cases h0
              exact ⟨_, rfl, by simp [splice_length arr0.toList (es.length * e') news (by simpa using hfit)]⟩
            have hevb : EvB x ⟨x.w.setRow c (splice arr0.toList (es.length * e') news).toArray, x.γ, upd x.hp b (.sl e' (es ++ ys) false), x.CM, (x.more base).U⟩ b := by
              unfold EvB
              rw [hb]
              exact .inr ⟨_, _, upd_same _ _ _, .inr (by simp; omega)⟩
            have hfr2 := set_fr (U' := (x.more base).U) (blk' := .sl e' (es ++ ys) false) hwr hb rfl hg hzz
            have hAsz : (splice arr0.toList (es.length * e') news).toArray.size = arr0.size := by simp [splice_length arr0.toList (es.length * e') news (by simpa using hfit)]
            refine Sim.of_value hs hd (hrun _ _ hr) (set_h hs.toHRel hwr hb rfl hg hzz (more_U x base) hevb
              ⟨fun cs hcs => (List.mem_append.1 hcs).elim (hll cs) (hn.all cs), .inr ⟨c, _, et0, hg, hwr.here, by rw [hAsz, ← hlen2]; exact Nat.le_trans (Nat.mul_le_mul_right _ hroom) h5,
                fun i cs j y hi hj => ?_⟩⟩) ?_ hfr2 (set_ev (more_U x base) hevb)
            · refine DRel.on hfr2 (content_append (A := fun k => (splice arr0.toList (es.length * e') news).toArray.getD k undef) (arr := arr0) (news := news) hll hn.all ?_ ?_ har hrow i cs j y hi hj)
              · intro k hk
                have e0 : (splice arr0.toList (es.length * e') news).toArray.getD k undef = ((splice arr0.toList (es.length * e') news)[k]?).getD undef := by simp [Array.getD_eq_getD_getElem?]
                simp only [e0]
                rw [splice_get _ _ _ (by simpa using hfit), if_pos hk]
                simp [Array.getD_eq_getD_getElem?]
              · intro k hk
                have e0 : (splice arr0.toList (es.length * e') news).toArray.getD (es.length * e' + k) undef = ((splice arr0.toList (es.length * e') news)[es.length * e' + k]?).getD undef := by simp [Array.getD_eq_getD_getElem?]
                simp only [e0]
                rw [splice_get _ _ _ (by simpa using hfit), if_neg (by omega), if_pos (by omega)]
                simp [List.getD_eq_getElem?_getD]
            · have := CRel.ref (x := ⟨x.w.setRow c (splice arr0.toList (es.length * e') news).toArray, x.γ, upd x.hp b (.sl e' (es ++ ys) false), x.CM, (x.more base).U⟩) b c 0 (es.length + ys.length) cap e' (es ++ ys) false _ et0 (0, 0)
                (upd_same _ _ _) hg hwr.here (by simp) hroom (by rw [hAsz]; simpa using h5) (more_U x base _ hUb)
              rw [Nat.zero_mul, ← hlen2] at this
              exact .c _ _ this
          · -- a larger place
            have holds : ∀ (j : Nat) (u : Value), (arr0.toList.take (es.length * e'))[j]? = some u → x.w.cell? ((⟨c, 0, none⟩ : Addr).add j) = some u := by
              intro j u hj
              rw [List.getElem?_take] at hj
              split at hj
              · rename_i hjl
                rw [add_none, Nat.zero_add, cell_of hw0 (by omega)]
                have hj' : arr0[j]? = some u := by simpa using hj
                simp [Array.getD_eq_getD_getElem?, hj']
              · simp at hj
            have hol : (arr0.toList.take (es.length * e')).length = es.length * ti.size := by rw [hsz]; simp; omega
            have hr := run_append_grow (P := P) x.w t o.type e ti z hu hti hz ⟨c, 0, none⟩ es.length cap (arr0.toList.take (es.length * e')) hol holds ad ys.length cc news (by rw [hsz]; exact hnl) hcell (by omega) (by omega)
              (growslice_fits (by omega) b2)
            rw [← hev] at hr
            refine moved (x.w.drew.alloc _) _ _ ⟨rfl, rfl, rfl⟩ rfl (hrun _ _ hr) (grownCap_ge _ _ _ _) ?_ ?_
            · rw [Array.size_append, Array.size_append, size_zeroCells, hzs]
              simp only [List.size_toArray, hnl, hol, hsz, ← Nat.add_mul]
              have := grownCap_ge x.w (es.length + ys.length) cap e
              exact Nat.mul_le_mul_right _ (by omega)
            · have hol' : (arr0.toList.take (es.length * e')).length = es.length * e' := by rw [hol, hsz]
              refine content_append (A := fun k => ((arr0.toList.take (es.length * e')).toArray ++ news.toArray ++ Builtin.zeroCells z.cells (grownCap x.w (es.length + ys.length) cap e - (es.length + ys.length))).getD k undef) (arr := arr0) (news := news) hll hn.all ?_ ?_ har hrow
              · intro k hk
                have h6 : k < (arr0.toList.take (es.length * e')).length := by omega
                have h7 : k < ((arr0.toList.take (es.length * e')).toArray ++ news.toArray).size := by simp; omega
                have h8 : k < (arr0.toList.take (es.length * e')).toArray.size := by simp; omega
                simp only [Array.getD_eq_getD_getElem?, Array.getElem?_append_left h7, Array.getElem?_append_left h8]
                simp [hk]
              · intro k hk
                have h7 : es.length * e' + k < ((arr0.toList.take (es.length * e')).toArray ++ news.toArray).size := by
                  simp only [Array.size_append, List.size_toArray, hol', hnl]; omega
                have h8 : (arr0.toList.take (es.length * e')).toArray.size ≤ es.length * e' + k := by simp only [List.size_toArray, hol']; omega
                simp only [Array.getD_eq_getD_getElem?, Array.getElem?_append_left h7, Array.getElem?_append_right h8]
                simp only [List.size_toArray, hol', Nat.add_sub_cancel_left]
                simp [List.getD_eq_getElem?_getD]
        | refOld _ _ _ _ _ _ _ h =>
          rcases h with h | ⟨_, _, _, h, hl2⟩
          · rw [hb] at h; simp at h
          · rw [hb] at h; cases h; omega
    · exact hx.elim
  · exact hx.elim

end
end Go.Vs

/- A call of a function that has a contract. -/
namespace Go.Vs

/-! ### Shifted names -/

theorem C.shiftL_eq (base : Nat) : ∀ l : List C, C.shiftL base l = l.map (C.shift base)
  | [] => rfl
  | y :: l => by rw [C.shiftL, C.shiftL_eq base l]; rfl

theorem V.shiftL_eq (base : Nat) : ∀ l : List V, V.shiftL base l = l.map (V.shift base)
  | [] => rfl
  | y :: l => by rw [V.shiftL, V.shiftL_eq base l]; rfl

theorem V.flatL_eq : ∀ l : List V, V.flatL l = l.all V.flat
  | [] => rfl
  | y :: l => by rw [V.flatL, V.flatL_eq l]; rfl

theorem C.shift_fn (base f : Nat) (cap : List C) : C.shift base (.fn f cap) = .fn f (cap.map (C.shift base)) := by
  rw [C.shift, C.shiftL_eq]

theorem V.shift_agg (base : Nat) (vs : List C) : V.shift base (.agg vs) = .agg (vs.map (C.shift base)) := by
  rw [V.shift, C.shiftL_eq]

theorem V.shift_tup (base : Nat) (vs : List V) : V.shift base (.tup vs) = .tup (vs.map (V.shift base)) := by
  rw [V.shift, V.shiftL_eq]

theorem V.flat_tup (vs : List V) : V.flat (.tup vs) = vs.all V.flat := by
  rw [V.flat, V.flatL_eq]

theorem Blk.shift_box (base : Nat) (cs : List C) : Blk.shift base (.box cs) = .box (cs.map (C.shift base)) := by
  rw [Blk.shift, C.shiftL_eq]

theorem DRel.flat_any {w w' : World} {ok ok' : Nat → Prop} {v : Value} {d : D} (hf : d.flat = true) (h : DRel w ok v d) : DRel w' ok' v d := by
  cases h <;> first | (simp [D.flat] at hf; done) | constructor

theorem get_map {α β : Type} {f : α → β} {l : List α} {j : Nat} {y : β} (h : (l.map f)[j]? = some y) : ∃ a, l[j]? = some a ∧ y = f a := by
  rw [List.getElem?_map] at h
  cases hl : l[j]? with
  | none => simp [hl] at h
  | some a => simp [hl] at h; exact ⟨a, rfl, h.symm⟩

/-- A caller's view of what a call handed over. -/
structure Sh' (x1 x' : Cx) (base len : Nat) : Prop where
  w : x'.w = x1.w
  U1 : ∀ b, x1.U b → b < len
  dom : ∀ b blk, x1.hp b = some blk → b < len
  hp : ∀ b, b < len → x'.hp (base + b) = (x1.hp b).map (Blk.shift base)
  γ : ∀ b, b < len → x'.γ (base + b) = x1.γ b
  U : ∀ b, b < len → x'.U (base + b)
  ok : ∀ c, x1.ok c → x'.ok c

theorem DRel.sh {x1 x' : Cx} {base len : Nat} (h : Sh' x1 x' base len) {v : Value} {d : D} (hr : DRel x1.w x1.ok v d) : DRel x'.w x'.ok v d :=
  hr.mono fun c _ hc ho => ⟨h.ok c hc, by rw [h.w]; exact ho⟩

theorem Sh'.hpAt {x1 x' : Cx} {base len : Nat} (h : Sh' x1 x' base len) {b : Nat} {blk : Blk} (hu : x1.U b) (hb : x1.hp b = some blk) : x'.hp (base + b) = some (blk.shift base) := by
  rw [h.hp b (h.U1 b hu), hb]
  rfl

theorem Sh'.none {x1 x' : Cx} {base len : Nat} (h : Sh' x1 x' base len) {b : Nat} (hu : x1.U b) (hb : x1.hp b = none) : x'.hp (base + b) = none := by
  rw [h.hp b (h.U1 b hu), hb]
  rfl

theorem CRel.sh {x1 x' : Cx} {base len : Nat} (h : Sh' x1 x' base len) {v : Value} {y : C} (hr : CRel x1 v y) : CRel x' v (y.shift base) := by
  induction hr with
  | d v e hd => rw [C.shift]; exact .d v e (hd.sh h)
  | cd v k e hd => rw [C.shift]; exact .junk v hd.one
  | junk v h1 => rw [C.shift]; exact .junk v h1
  | refNil b esz fz hb hu => rw [C.shift]; exact .refNil _ esz fz (h.hpAt hu hb) (h.U b (h.U1 b hu))
  | ref b c off n cap esz es fz arr e fr hb hg hw h1 h2 h3 hu =>
    rw [C.shift]; exact .ref _ c off n cap esz es fz arr e fr (h.hpAt hu hb) ((h.γ b (h.U1 b hu)).trans hg) (by rw [h.w]; exact hw) h1 h2 h3 (h.U b (h.U1 b hu))
  | refOld b g off n v h1 hu hb =>
    rw [C.shift]; refine .refOld _ g off n v h1 (h.U b (h.U1 b hu)) ?_
    rcases hb with hb | ⟨esz, es, fz, hb, hl⟩
    · exact .inl (h.none hu hb)
    · exact .inr ⟨esz, es, fz, h.hpAt hu hb, hl⟩
  | bref b c off n cap esz cs hb hg h1 h2 hu =>
    rw [C.shift]; exact .bref _ c off n cap esz _ ((h.hpAt hu hb).trans (by rw [Blk.shift_box])) ((h.γ b (h.U1 b hu)).trans hg) h1 (by simpa using h2) (h.U b (h.U1 b hu))
  | brefOld b off n esz v h1 hu hb => rw [C.shift]; exact .brefOld _ off n esz v h1 (h.U b (h.U1 b hu)) (h.none hu hb)
  | ptr b c off cs hb hg hu => rw [C.shift]; exact .ptr _ c off _ (h.hpAt hu hb) ((h.γ b (h.U1 b hu)).trans hg) (h.U b (h.U1 b hu))
  | ptrOld b off v h1 hu hb => rw [C.shift]; exact .ptrOld _ off v h1 (h.U b (h.U1 b hu)) (h.none hu hb)
  | eptr b c i off esz es fz hb hg hi hu => rw [C.shift]; exact .eptr _ c i off esz es fz (h.hpAt hu hb) ((h.γ b (h.U1 b hu)).trans hg) hi (h.U b (h.U1 b hu))
  | eptrOld b g i off v h1 hu hb =>
    rw [C.shift]; refine .eptrOld _ g i off v h1 (h.U b (h.U1 b hu)) ?_
    rcases hb with hb | ⟨esz, es, fz, hb, hl⟩
    · exact .inl (h.none hu hb)
    · exact .inr ⟨esz, es, fz, h.hpAt hu hb, hl⟩
  | mref b c es hb hg hu => rw [C.shift]; exact .mref _ c es (h.hpAt hu hb) ((h.γ b (h.U1 b hu)).trans hg) (h.U b (h.U1 b hu))
  | mrefOld b v h1 hu hb => rw [C.shift]; exact .mrefOld _ v h1 (h.U b (h.U1 b hu)) (h.none hu hb)
  | fn f caps cap hsz hr ih =>
    rw [C.shift_fn]
    refine .fn f caps _ (by simpa using hsz) fun j y hj => ?_
    obtain ⟨a, ha, rfl⟩ := get_map hj
    exact ih j a ha

theorem VRel.sh {x1 x' : Cx} {base len : Nat} (h : Sh' x1 x' base len) {v : Value} {y : V} (hr : VRel x1 v y) : VRel x' v (y.shift base) := by
  induction hr with
  | c v y hc => rw [V.shift]; exact .c _ _ (hc.sh h)
  | agg arr cs hsz hr =>
    rw [V.shift_agg]
    refine .agg arr _ (by simpa using hsz) fun j y hj => ?_
    obtain ⟨a, ha, rfl⟩ := get_map hj
    exact (hr j a ha).sh h
  | tup arr vs hsz hr ih =>
    rw [V.shift_tup]
    refine .tup arr _ (by simpa using hsz) fun j y hj => ?_
    obtain ⟨a, ha, rfl⟩ := get_map hj
    exact ih j a ha
  | junk v => rw [V.shift]; exact .junk v

theorem BRel.sh {x1 x' : Cx} {base len b : Nat} {blk : Blk} (h : Sh' x1 x' base len) (hb : b < len) (hr : BRel x1 b blk) : BRel x' (base + b) (blk.shift base) := by
  cases blk with
  | box cs =>
    obtain ⟨c, arr, e, h1, h2, h3, h4⟩ := hr
    rw [Blk.shift_box]
    refine ⟨c, arr, e, (h.γ b hb).trans h1, by rw [h.w]; exact h2, by simpa using h3, fun j y hj => ?_⟩
    obtain ⟨a, ha, rfl⟩ := get_map hj
    exact (h4 j a ha).sh h
  | sl esz es fz =>
    obtain ⟨h0, h1⟩ := hr
    refine ⟨h0, ?_⟩
    rcases h1 with ⟨h1, h2⟩ | ⟨c, arr, e, h1, h2, h3, h4⟩
    · exact .inl ⟨(h.γ b hb).trans h1, h2⟩
    · exact .inr ⟨c, arr, e, (h.γ b hb).trans h1, by rw [h.w]; exact h2, h3, fun i cs j y hi hj => (h4 i cs j y hi hj).sh h⟩
  | mp es =>
    obtain ⟨c, ents, clk, h1, h2, h3, h4, h5⟩ := hr
    exact ⟨c, ents, clk, (h.γ b hb).trans h1, by rw [h.w]; exact h2, h3, fun i p hi => (h4 i p hi).sh h, fun i p hi => (h5 i p hi).sh h⟩

theorem C.flat_rel {x1 x' : Cx} {v : Value} {y : C} (base : Nat) (hf : y.flat = true) (hr : CRel x1 v y) : CRel x' v (y.shift base) := by
  cases y with
  | d e => rw [C.shift]; exact .d _ _ (hr.d_inv.flat_any hf)
  | _ => simp [C.flat] at hf

theorem V.flat_rel {x1 x' : Cx} {v : Value} {y : V} (base : Nat) (hr : VRel x1 v y) : y.flat = true → VRel x' v (y.shift base) := by
  induction hr with
  | c v y hc => intro hf; rw [V.flat] at hf; rw [V.shift]; exact .c _ _ (C.flat_rel base hf hc)
  | agg arr cs hsz hr =>
    intro hf
    rw [V.flat] at hf
    rw [V.shift_agg]
    refine .agg arr _ (by simpa using hsz) fun j y hj => ?_
    obtain ⟨a, ha, rfl⟩ := get_map hj
    exact C.flat_rel base (List.all_eq_true.1 hf a (List.mem_of_getElem? ha)) (hr j a ha)
  | tup arr vs hsz hr ih =>
    intro hf
    rw [V.flat_tup] at hf
    rw [V.shift_tup]
    refine .tup arr _ (by simpa using hsz) fun j y hj => ?_
    obtain ⟨a, ha, rfl⟩ := get_map hj
    exact ih j a ha (List.all_eq_true.1 hf a (List.mem_of_getElem? ha))
  | junk v => intro _; rw [V.shift]; exact .junk v

theorem Blk.shift_mu (base : Nat) (b : Blk) : (b.shift base).mu = b.mu := by cases b <;> rfl

/-! ### Arguments -/

theorem borV_sim {P : Program} {x : Cx} (hh : HRel x) {y : V} {v' : Value} {k : PV → Bool → Prog} {u : V} {H' : HpF} {fp : Fp} (hv : VRel x v' y)
    (hx : (borV y k).exec P x.hp u H' fp) : ∃ p br fp', (k p br).exec P x.hp u H' fp' ∧ PRel x.w (fun _ => True) v' p ∧ (br = false → PRel x.w x.ok v' p) := by
  unfold borV at hx
  split at hx
  · rename_i c
    obtain ⟨d, br, fp', hx, hl⟩ := borC_sim hh 4 hv.c_inv hx
    exact ⟨_, br, fp', hx, hl.any, hl.own⟩
  · rename_i cs
    cases hv with
    | agg arr _ hsz hr =>
      obtain ⟨ds, br, fp', hx, hl, hd⟩ := borL_sim (P := P) (x := x) (fun {c v k u H' fp} => borC_sim hh 4 (c := c) (v := v) (k := k) (u := u) (H' := H') (fp := fp)) cs (vals := arr.toList)
        (by simpa using hsz) (fun j y hj => by simpa [List.getD_eq_getElem?_getD, Array.getD_eq_getD_getElem?] using hr j y hj) hx
      have e : ∀ j, arr.toList.getD j undef = arr.getD j undef := fun j => by simp [List.getD_eq_getElem?_getD, Array.getD_eq_getD_getElem?]
      exact ⟨_, br, fp', hx, ⟨arr, rfl, by omega, fun j d hj => e j ▸ (hd j d hj).any⟩, fun hb => ⟨arr, rfl, by omega, fun j d hj => e j ▸ (hd j d hj).own hb⟩⟩
  · exact hx.elim

inductive VRels (x : Cx) : List Value → List V → Prop
  | nil : VRels x [] []
  | cons {v : Value} {y : V} {vs : List Value} {ys : List V} : VRel x v y → VRels x vs ys → VRels x (v :: vs) (y :: ys)

theorem VRels.append {x : Cx} {vs us : List Value} {ys zs : List V} (h : VRels x vs ys) (h2 : VRels x us zs) : VRels x (vs ++ us) (ys ++ zs) := by
  induction h with
  | nil => exact h2
  | cons a _ ih => exact .cons a ih

theorem borVs_sim {P : Program} {x : Cx} (hh : HRel x) {ys : List V} {vs : List Value} (hv : VRels x vs ys) : ∀ {k : List PV → Bool → Prog} {u : V} {H' : HpF} {fp : Fp},
    (borVs ys k).exec P x.hp u H' fp → ∃ ps br fp', (k ps br).exec P x.hp u H' fp' ∧ PRels x.w (fun _ => True) vs ps ∧ (br = false → PRels x.w x.ok vs ps) := by
  induction hv with
  | nil => exact fun hx => ⟨[], false, _, hx, .nil, fun _ => .nil⟩
  | cons hv _ ih =>
    intro k u H' fp hx
    obtain ⟨p, b1, fp1, hx1, h1, h2⟩ := borV_sim hh hv hx
    obtain ⟨ps, b2, fp2, hx2, h3, h4⟩ := ih hx1
    exact ⟨p :: ps, _, fp2, hx2, .cons h1 h3, fun hb => by
      simp at hb
      exact .cons (h2 hb.1) (h4 hb.2)⟩

theorem VRels.of_opers {x : Cx} {tm : Nat → V} {a : Act} (hs : SRel x tm a) : ∀ (ys : List Operand), VRels x (ys.map a.eval) (ys.map (operV tm))
  | [] => .nil
  | y :: ys => .cons (hs.oper y) (of_opers hs ys)

theorem VRels.of_caps {x : Cx} : ∀ {cap : List C} {vs : List Value}, vs.length = cap.length → (∀ j y, cap[j]? = some y → CRel x (vs.getD j undef) y) → VRels x vs (cap.map .c)
  | [], [], _, _ => .nil
  | c :: cap, v :: vs, hl, h => .cons (.c _ _ (h 0 c rfl)) (of_caps (by simpa using hl) fun j y hj => h (j + 1) y (by simpa using hj))
  | [], _ :: _, hl, _ => by simp at hl
  | _ :: _, [], hl, _ => by simp at hl

theorem fn_inv {x : Cx} {v : Value} {y : V} {f : Nat} {cap : List C} (h : VRel x v y) (hf : y.fn? = some (f, cap)) :
    ∃ caps : Array Value, v = .func (.func f) #[] caps ∧ caps.size = cap.length ∧ ∀ j z, cap[j]? = some z → CRel x (caps.getD j undef) z := by
  unfold V.fn? at hf
  split at hf
  · simp only [Option.some.injEq, Prod.mk.injEq] at hf
    obtain ⟨rfl, rfl⟩ := hf
    cases h.c_inv.d_inv with
    | fn f caps cap hsz hr =>
      refine ⟨caps, rfl, by simpa using hsz, fun j z hj => ?_⟩
      obtain ⟨a, ha, rfl⟩ := get_map hj
      exact .d _ _ (hr j a ha)
  · simp only [Option.some.injEq, Prod.mk.injEq] at hf
    obtain ⟨rfl, rfl⟩ := hf
    cases h.c_inv with
    | fn f caps cap hsz hr => exact ⟨caps, rfl, hsz, hr⟩
  · simp at hf

/-! ### The call -/

section
variable {P : Program} {tv : Tv} {o : Oper} {a : Act} {x : Cx} {tm : Nat → V} {base : Nat} {v : V} {hp' : HpF} {fp : Fp}

def shγ (γ γ1 : Gam) (base len : Nat) : Gam := fun b => if base ≤ b ∧ b < base + len then γ1 (b - base) else γ b

theorem post_sim {CM' : Nat → Prop} {γ1 : Gam} {blks : List Blk} {w' : World} {v' : Value} {res : V} (hh : HRel x) (hfr : ∀ j, base ≤ j → j < base + 4 → ¬ x.U j)
    (hlen : blks.length ≤ 4) (hp : PostC CM' x.w γ1 blks w' v' res) 
    (hor : (res.flat = true ∧ blks = []) ∨ ((∀ c, x.CM c → CM' c) ∧ ∀ c, Mut x.γ x.hp c → CM' c)) :
    let x' : Cx := ⟨w', shγ x.γ γ1 base blks.length, updL x.hp base (blks.map (Blk.shift base)), x.CM, (x.more base).U⟩
    HRel x' ∧ VRel x' v' (res.shift base) ∧ Fr x x' ∧ Ev x.U x x' := by
  intro x'
  have hpOld : ∀ b, b < base ∨ base + blks.length ≤ b → x'.hp b = x.hp b := fun b hb => by
    rcases hb with hb | hb
    · exact updL_of_lt _ _ _ _ hb
    · exact updL_ge _ _ _ _ (by simpa using hb)
  have γOld : ∀ b, b < base ∨ base + blks.length ≤ b → x'.γ b = x.γ b := fun b hb => by
    show shγ _ _ _ _ b = _
    unfold shγ
    rw [if_neg (by omega)]
  have hpNew : ∀ b, b < blks.length → x'.hp (base + b) = (blks[b]?).map (Blk.shift base) := fun b hb => by
    show updL _ _ _ _ = _
    rw [updL_at _ _ _ _ (by simpa using hb), List.getElem?_map]
  have γNew : ∀ b, b < blks.length → x'.γ (base + b) = γ1 b := fun b hb => by
    show shγ _ _ _ _ _ = _
    unfold shγ
    rw [if_pos (by omega)]
    congr 1
    omega
  have uNot : ∀ b, x.U b → b < base ∨ base + blks.length ≤ b := fun b hb => by
    rcases Nat.lt_or_ge b base with h | h
    · exact .inl h
    · rcases Nat.lt_or_ge b (base + 4) with h2 | h2
      · exact absurd hb (hfr b h h2)
      · right; omega
  have split : ∀ b, (b < base ∨ base + blks.length ≤ b) ∨ ∃ i, i < blks.length ∧ b = base + i := fun b => by
    by_cases h : b < base ∨ base + blks.length ≤ b
    · exact .inl h
    · exact .inr ⟨b - base, by omega, by omega⟩
  have mutNew : ∀ c, Mut x'.γ x'.hp c → Mut x.γ x.hp c ∨ Mut γ1 (fun j => blks[j]?) c := fun c ⟨b, blk, h1, h2, h3⟩ => by
    rcases split b with hb | ⟨i, hi, rfl⟩
    · exact .inl ⟨b, blk, (hpOld b hb).symm.trans h1, h2, (γOld b hb).symm.trans h3⟩
    · rw [hpNew i hi] at h1
      rw [γNew i hi] at h3
      obtain ⟨blk0, hb0, rfl⟩ := Option.map_eq_some_iff.1 h1
      exact .inr ⟨i, blk0, hb0, by rw [Blk.shift_mu] at h2; exact h2, h3⟩
  have notMut0 : ∀ c, ¬ Mut (Cx.start x.w CM').γ (Cx.start x.w CM').hp c := fun c ⟨b, blk, h1, _⟩ => by simp [Cx.start] at h1
  have hfr' : Fr x x' :=
    { os := hp.fr.os
      tape := hp.fr.tape
      output := hp.fr.output
      size := hp.fr.size
      same := fun c hc _ => hp.fr.same c hc (notMut0 c)
      muts := fun c hc hm => by
        rcases mutNew c hm with h | ⟨b, blk, h1, h2, h3⟩
        · exact h
        · have := hp.new b c h3
          have hc' : c < x.w.heap.size := hc
          omega
      sz := hp.fr.sz
      orig := hp.fr.orig
      cm := rfl }
  have hev : Ev x.U x x' := ⟨fun b h => .inl h, fun b hb => EvB.same (hpOld b (uNot b hb)) (γOld b (uNot b hb))⟩
  have hsame : ∀ c, c < x.w.heap.size → w'.heap[c]? = x.w.heap[c]? := fun c hc => hp.fr.same c hc (notMut0 c)
  have inj' : ∀ b b' c, x'.γ b = some c → x'.γ b' = some c → b = b' := fun b b' c h1 h2 => by
    rcases split b with hb | ⟨i, hi, rfl⟩ <;> rcases split b' with hb' | ⟨i', hi', rfl⟩
    · rw [γOld _ hb] at h1
      rw [γOld _ hb'] at h2
      exact hh.inj b b' c h1 h2
    · rw [γOld _ hb] at h1
      rw [γNew _ hi'] at h2
      have := (hh.lt b c h1).1
      have := hp.new i' c h2
      omega
    · rw [γNew _ hi] at h1
      rw [γOld _ hb'] at h2
      have := (hh.lt b' c h2).1
      have := hp.new i c h1
      omega
    · rw [γNew _ hi] at h1
      rw [γNew _ hi'] at h2
      rw [hp.h.inj i i' c h1 h2]
  have lt' : ∀ b c, x'.γ b = some c → c < x'.w.heap.size ∧ ¬ x'.CM c := fun b c h1 => by
    rcases split b with hb | ⟨i, hi, rfl⟩
    · rw [γOld _ hb] at h1
      have := hh.lt b c h1
      exact ⟨Nat.lt_of_lt_of_le this.1 hp.fr.size, this.2⟩
    · rw [γNew _ hi] at h1
      have := hp.h.lt i c h1
      exact ⟨this.1, fun hc => by
        have h1 := hp.new _ c h1
        have h2 := hh.cm c hc
        omega⟩
  have cm' : ∀ c, x'.CM c → c < x'.w.heap.size := fun c hc => Nat.lt_of_lt_of_le (hh.cm c hc) hp.fr.size
  have oldB : ∀ b blk, (b < base ∨ base + blks.length ≤ b) → x'.hp b = some blk → x'.U b ∧ BRel x' b blk := fun b blk hb h1 => by
    rw [hpOld b hb] at h1
    have := hh.hp b blk h1
    exact ⟨.inl this.1, this.2.on hfr' hev (γOld b hb) fun c hc => hsame c (hh.lt b c hc).1⟩
  rcases hor with ⟨hflat, rfl⟩ | ⟨hsub, hall⟩
  · refine ⟨⟨fun b blk h1 => oldB b blk (by simp; omega) h1, inj', lt', cm'⟩, V.flat_rel base hp.v hflat, hfr', hev⟩
  · have hsh : Sh' ⟨w', γ1, fun j => blks[j]?, CM', fun b => b < blks.length⟩ x' base blks.length :=
      { w := rfl
        U1 := fun b h => h
        dom := fun b blk h => (List.getElem?_eq_some_iff.1 h).1
        hp := hpNew
        γ := γNew
        U := fun b h => .inr ⟨by omega, by omega⟩
        ok := fun c ⟨h1, h2⟩ => ⟨fun h => h1 (hsub c h), fun hm => by
          rcases mutNew c hm with h | h
          · exact h1 (hall c h)
          · exact h2 h⟩ }
    refine ⟨⟨fun b blk h1 => ?_, inj', lt', cm'⟩, hp.v.sh hsh, hfr', hev⟩
    rcases split b with hb | ⟨i, hi, rfl⟩
    · exact oldB b blk hb h1
    · rw [hpNew i hi] at h1
      obtain ⟨blk0, hb0, rfl⟩ := Option.map_eq_some_iff.1 h1
      exact ⟨.inr ⟨by omega, by omega⟩, (hp.h.hp i blk0 hb0).2.sh hsh hi⟩

theorem PRels.cm {w : World} {ok ok' : Nat → Prop} (h : ∀ c, ok c → ok' c) {vs : List Value} {ps : List PV} (hr : PRels w ok vs ps) : PRels w ok' vs ps := by
  induction hr with
  | nil => exact .nil
  | cons hp _ ih =>
    refine .cons ?_ ih
    rename_i v p _ _ _
    cases p with
    | c d => exact DRel.mono (fun c o hc ho => ⟨h c hc, ho⟩) hp
    | agg cs =>
      obtain ⟨arr, h1, h2, h3⟩ := hp
      exact ⟨arr, h1, h2, fun j y hj => DRel.mono (fun c o hc ho => ⟨h c hc, ho⟩) (h3 j y hj)⟩

theorem run_callFunc {g : Nat} {fn : Func} {args : Array Value} {w : World} (hfn : P.funcs[g]? = some fn) (hn1 : (fn.name == "runtime.NumGoroutine") = false) (hn2 : fn.body.isNone = false) :
    (callFunc g args).run P w = .ok (.enter g args) w := by
  unfold callFunc
  rw [Sem.run_bind]
  have : (program : Sem Program).run P w = .ok P w := rfl
  rw [this, Result.andThen_ok]
  simp only [hfn]
  rw [hn1, hn2]
  rfl

theorem sim_call {f : Operand} {args : Array Operand} {ts : Array Nat} (ho : o.op = .call { callee := .value f, args := args, argTypes := ts }) (hs : SRel x tm a)
    (hd : ∀ d, o.dst = some d → d < a.tmps.size) (hfr : ∀ j, base ≤ j → j < base + 4 → ¬ x.U j)
    (hx : (callV base (operV tm f) (args.toList.map (operV tm))).exec P x.hp v hp' fp) : Sim P o a x tm base v hp' := by
  unfold callV at hx
  split at hx
  · rename_i g cap hg
    obtain ⟨caps, hev, hsz, hcap⟩ := fn_inv (hs.oper f) hg
    have hv : VRels x ((args.map a.eval).toList ++ caps.toList) (args.toList.map (operV tm) ++ cap.map .c) := by
      refine VRels.append ?_ (VRels.of_caps (by simpa using hsz) fun j y hj => by
        simpa [List.getD_eq_getElem?_getD, Array.getD_eq_getD_getElem?] using hcap j y hj)
      rw [Array.toList_map]
      exact VRels.of_opers hs _
    obtain ⟨ps, br, fp', hx, hany, hown⟩ := borVs_sim hs.toHRel hv hx
    obtain ⟨res, blks, hgv, hlen, rfl, rfl, rfl⟩ := hx
    intro K Q hK
    have harr : ((args.map a.eval).toList ++ caps.toList).toArray = args.map a.eval ++ caps := by
      apply Array.ext'; simp
    have key : ∀ (fn : Func), P.funcs[g]? = some fn → (fn.name == "runtime.NumGoroutine") = false → fn.body.isNone = false → ∀ CM' : Nat → Prop, ((res.flat = true ∧ blks = []) ∨ ((∀ c, x.CM c → CM' c) ∧ ∀ c, Mut x.γ x.hp c → CM' c)) →
        (Calls P g ((args.map a.eval).toList ++ caps.toList).toArray x.w fun e w' => ∃ v γ, e = .returned v ∧ PostC CM' x.w γ blks w' v res) → o.wp P a x.w K Q := by
      intro fn hfn hn1 hn2 CM' hor hC
      have hrun : (execOp a.eval o).run P x.w = .ok (.enter g (args.map a.eval ++ caps)) x.w := by
        simp only [execOp, ho, resolve, Deferred.ofValue, hev, invoke, Sem.run_bind, Sem.run_pure, Result.andThen_ok]
        rw [run_callFunc hfn hn1 hn2]
        simp
      unfold Oper.wp
      rw [hrun, Oper.upon_enter]
      rw [harr] at hC
      refine hC.mono ?_
      rintro e w' ⟨v', γ1, rfl, hpost⟩
      obtain ⟨g1, g2, g3, g4⟩ := post_sim (base := base) hs.toHRel hfr hlen hpost hor
      refine hK _ _ _ ⟨g1, tm_put (fun t => (hs.tm t).on g3 g4) g2 hd, (Act.put_defers' _ _ _).trans hs.defers⟩ g3 g4 (Act.put_size _ _ _)
    have hlt : ∀ c, (x.CM c ∨ Mut x.γ x.hp c) → c < x.w.heap.size := by
      rintro c (h | ⟨b, blk, _, _, h⟩)
      · exact hs.cm c h
      · exact (hs.lt b c h).1
    rcases hgv with ⟨⟨fn, hfn, hn1, hn2, hC⟩, hflat⟩ | ⟨fn, hfn, hn1, hn2, hC⟩
    · cases br with
      | true => exact key fn hfn hn1 hn2 (fun _ => False) (.inl (hflat rfl)) (hC (fun _ => False) x.w _ (fun _ h => h.elim) (hany.cm fun _ _ h => h))
      | false =>
        refine key fn hfn hn1 hn2 (fun c => x.CM c ∨ Mut x.γ x.hp c) (.inr ⟨fun _ h => .inl h, fun _ h => .inr h⟩) (hC _ x.w _ hlt ((hown rfl).cm ?_))
        rintro c ⟨h1, h2⟩ (h | h)
        · exact h1 h
        · exact h2 h
    · exact key fn hfn hn1 hn2 (fun c => x.CM c ∨ Mut x.γ x.hp c) (.inr ⟨fun _ h => .inl h, fun _ h => .inr h⟩) (hC _ x.w _ hlt hany)
  · exact hx.elim
end
end Go.Vs

/- Every operation of which the logic speaks. -/
namespace Go.Vs

section
variable {P : Program} {tv : Tv} {o : Oper} {a : Act} {x : Cx} {tm : Nat → V} {base : Nat} {v : V} {hp' : HpF} {fp : Fp}

theorem builtin_sim {b : Builtin} {args : Array Operand} {ts : Array Nat} (htv : TvOk P tv) (ho : o.op = .call { callee := .builtin b, args := args, argTypes := ts })
    (hs : SRel x tm a) (hd : ∀ d, o.dst = some d → d < a.tmps.size) (hfr : ∀ j, base ≤ j → j < base + 4 → ¬ x.U j)
    (hx : (builtinV tv base b ts.toList (args.toList.map (operV tm))).exec P x.hp v hp' fp) : Sim P o a x tm base v hp' := by
  generalize hts : ts.toList = tl at hx
  generalize hy : args.toList.map (operV tm) = ys at hx
  unfold builtinV at hx
  split at hx
  · exact sim_len htv ho hts hy hs hd hx
  · subst hy; exact sim_min ho hs hd hx
  · split at hx
    · rename_i ht
      subst ht
      split at hx
      · rename_i esz eb ez hsh
        exact sim_append htv ho hts rfl hy hsh hs hd (hfr base (Nat.le_refl _) (by omega)) hx
      · exact hx.elim
    · exact hx.elim
  · split at hx
    · rename_i kk z hsh
      exact sim_delete htv ho hts hy hsh hs hd hx
    · exact hx.elim
  · exact hx.elim

theorem op_sim (htv : TvOk P tv) (hs : SRel x tm a) (hd : ∀ d, o.dst = some d → d < a.tmps.size) (hfr : ∀ j, base ≤ j → j < base + 4 → ¬ x.U j)
    (hx : (sem tv base (operV tm) o).exec P x.hp v hp' fp) : Sim P o a x tm base v hp' := by
  have hfr0 : ¬ x.U base := hfr base (Nat.le_refl _) (by omega)
  have hx0 := hx
  unfold sem semOp at hx
  split at hx
  · exact sim_move (.inl (by assumption)) hs hd hx
  · exact sim_move (.inr (by assumption)) hs hd hx
  · exact sim_pick (by assumption) hs hd hx0
  · exact sim_alloc htv (by assumption) hs hd hfr0 hx0
  · exact sim_box (by assumption) hs hd hfr0 hx0
  · exact sim_build htv (by assumption) hs hd hx0
  · exact sim_buildSlice htv (by assumption) hs hd hfr0 hx0
  · exact sim_load htv (by assumption) hs hd hx0
  · exact sim_store htv (by assumption) hs hd hx0
  · exact sim_nilCheck (by assumption) hs hd hx0
  · exact sim_bin htv (by assumption) hs hd hx0
  · exact sim_not (by assumption) hs hd hx0
  · exact sim_convert htv (by assumption) hs hd hx0
  · exact sim_makeFunc (by assumption) hs hd hx0
  · exact sim_makeMap (by assumption) hs hd hfr0 hx0
  · exact sim_makeSlice htv (by assumption) hs hd hfr0 hx0
  · exact sim_slice htv (by assumption) hs hd hx0
  · exact sim_fieldAddr htv (by assumption) hs hd hx0
  · exact sim_field htv (by assumption) hs hd hx0
  · exact sim_indexAddr htv (by assumption) hs hd hx0
  · exact sim_lookup htv (by assumption) hs hd hx0
  · exact sim_update htv (.inl (by assumption)) hs hd hx0
  · exact sim_update htv (.inr (by assumption)) hs hd hx0
  · exact sim_extract (by assumption) hs hd hx0
  · exact builtin_sim htv (by assumption) hs hd hfr hx
  · exact sim_call (by assumption) hs hd hfr hx
  · exact hx.elim
end
end Go.Vs

/- Regions: what their operations come to in text order; that every order which their edges allow comes to the same. -/
namespace Go.Vs

/-! ### Last writers -/

def lw {α : Type} (f : Nat → Option α) (S : Nat → Bool) (a : α) : Nat → α
  | 0 => a
  | n + 1 => match S n, f n with
    | true, some v => v
    | _, _ => lw f S a n

theorem lw_skip {α : Type} (f : Nat → Option α) (S : Nat → Bool) (a : α) (n : Nat) (h : S n = false ∨ f n = none) : lw f S a (n + 1) = lw f S a n := by
  rw [lw]
  rcases h with h | h
  · rw [h]
  · rw [h]
    cases S n <;> rfl

theorem lw_take {α : Type} (f : Nat → Option α) (S : Nat → Bool) (a : α) (n : Nat) (v : α) (h : S n = true) (h2 : f n = some v) : lw f S a (n + 1) = v := by
  rw [lw, h, h2]

theorem lw_eq {α : Type} (f : Nat → Option α) (S : Nat → Bool) (a : α) (i : Nat) : ∀ n, i ≤ n → (∀ k, k < n → f k ≠ none → (k < i → S k = true) ∧ (i ≤ k → S k = false)) →
    lw f S a n = lw f (fun _ => true) a i
  | 0, hi, _ => by
    have : i = 0 := by omega
    subst this
    rfl
  | n + 1, hi, h => by
    rcases Nat.lt_or_ge n i with hn | hn
    · have : i = n + 1 := by omega
      subst this
      cases hf : f n with
      | none =>
        rw [lw_skip _ _ _ _ (.inr hf), lw_skip _ _ _ _ (.inr hf)]
        exact lw_eq f S a n n (Nat.le_refl _) fun k hk hkf => ⟨fun _ => (h k (by omega) hkf).1 (by omega), fun h2 => absurd hk (by omega)⟩
      | some v =>
        rw [lw_take f S a n v ((h n (by omega) (by simp [hf])).1 (by omega)) hf, lw_take f _ a n v rfl hf]
    · rw [lw_skip f S a n]
      · exact lw_eq f S a i n hn fun k hk hkf => h k (by omega) hkf
      · cases hf : f n with
        | none => exact .inr rfl
        | some v => exact .inl ((h n (by omega) (by simp [hf])).2 hn)

theorem lw_add {α : Type} (f : Nat → Option α) (S S' : Nat → Bool) (a : α) (i : Nat) (hS : ∀ k, S' k = (S k || k == i)) (h : ∀ k, i < k → f i ≠ none → f k ≠ none → S k = false) :
    ∀ n, i < n → lw f S' a n = (f i).getD (lw f S a n)
  | 0, hi => by omega
  | n + 1, hi => by
    rcases Nat.lt_or_ge i n with hn | hn
    · have e : S' n = S n := by rw [hS]; have : (n == i) = false := by simp; omega
                                rw [this]; simp
      have ih := lw_add f S S' a i hS h n hn
      cases hf : f n with
      | none => rw [lw_skip _ _ _ _ (.inr hf), lw_skip _ _ _ _ (.inr hf), ih]
      | some v =>
        cases hi' : f i with
        | none =>
          rw [hi'] at ih
          cases hs : S n with
          | true => rw [lw_take f S' a n v (by rw [e, hs]) hf, lw_take f S a n v hs hf]; rfl
          | false => rw [lw_skip _ _ _ _ (.inl (by rw [e, hs])), lw_skip _ _ _ _ (.inl hs), ih]
        | some u =>
          have hs := h n hn (by simp [hi']) (by simp [hf])
          rw [lw_skip _ _ _ _ (.inl (by rw [e, hs])), ih, hi']
          rfl
    · have : n = i := by omega
      subst this
      have e : S' n = true := by rw [hS]; simp
      cases hf : f n with
      | none =>
        rw [lw_skip _ _ _ _ (.inr hf), lw_skip _ _ _ _ (.inr hf)]
        have : ∀ m, m ≤ n → lw f S' a m = lw f S a m := by
          intro m
          induction m with
          | zero => intro _; rfl
          | succ m ih =>
            intro hm
            have e2 : S' m = S m := by rw [hS]; have : (m == n) = false := by simp; omega
                                       rw [this]; simp
            rw [lw, lw, e2, ih (by omega)]
        rw [this n (Nat.le_refl _)]
        rfl
      | some v => rw [lw_take f S' a n v e hf]; rfl

/-! ### One operation of a region -/

/-- What stands in slots: does the operation run? -/
def guardV (ops : Array Oper) (tm : Nat → V) (o : Oper) : Option Bool :=
  match o.guard with
  | none => some true
  | some (g, want) => match (ops[g]?).bind (·.dst) with
    | some t => match tm t with
      | .c (.d (.bool b)) => some (b == want)
      | .tup [] => some false
      | _ => none
    | none => none

structure OpStep (P : Program) (tv : Tv) (ops : Array Oper) (base : Nat) (o : Oper) (tm : Nat → V) (hp : HpF) (v : V) (hp' : HpF) (fp : Fp) : Prop where
  go : (guardV ops tm o = some true ∧ (sem tv base (operV tm) o).exec P hp v hp' fp) ∨ (guardV ops tm o = some false ∧ v = .tup [] ∧ hp' = hp ∧ fp = ⟨[], []⟩)

theorem wanted_of {ops : Array Oper} {x : Cx} {tm : Nat → V} {a : Act} {o : Oper} {b : Bool} (hs : SRel x tm a) (h : guardV ops tm o = some b) :
    Region.wanted o (yielded ops a.tmps) = b := by
  unfold guardV at h
  unfold Region.wanted
  split at h
  · rename_i hg; rw [hg]; simpa using h
  · rename_i g want hg
    rw [hg]
    split at h
    · rename_i t ht
      split at h
      · rename_i b' hb
        have hv := hs.tm t
        rw [hb] at hv
        have hv := hv.bool_inv
        have hy : yielded ops a.tmps g = some b' := by
          unfold yielded
          rw [ht]
          have hlt : t < a.tmps.size := by
            rcases Nat.lt_or_ge t a.tmps.size with h' | h'
            · exact h'
            · simp [Array.getD_eq_getD_getElem?, Array.getElem?_eq_none h', undef] at hv
          have : a.tmps[t]? = some (.bool b') := by
            rw [Array.getD_eq_getD_getElem?, Array.getElem?_eq_getElem hlt] at hv
            rw [Array.getElem?_eq_getElem hlt]
            simpa using hv
          simp [this]
        simp only [hy]
        simp only [Option.some.injEq] at h
        rw [← h]
        cases b' <;> cases want <;> rfl
      · rename_i hb
        have hv := hs.tm t
        rw [hb] at hv
        simp only [Option.some.injEq] at h
        subst h
        have hy : yielded ops a.tmps g = none := by
          unfold yielded
          rw [ht]
          show (match a.tmps[t]? with
            | some (.bool b) => some b
            | _ => none) = none
          rcases Nat.lt_or_ge t a.tmps.size with h' | h'
          · rw [Array.getElem?_eq_getElem h']
            rw [Array.getD_eq_getD_getElem?, Array.getElem?_eq_getElem h'] at hv
            simp only [Option.getD_some] at hv
            generalize a.tmps[t] = u at hv
            cases hv
            rfl
          · rw [Array.getElem?_eq_none h']
        simp only [hy]
        rfl
      · simp at h
    · simp at h

theorem step_sim {P : Program} {tv : Tv} {ops : Array Oper} {base i : Nat} {o : Oper} {x : Cx} {tm : Nat → V} {a : Act} {v : V} {hp' : HpF} {fp : Fp}
    {K : Act → World → Prop} {Q : Exit → Act → World → Prop} (htv : TvOk P tv)
    (hi : ops[i]? = some o) (hs : SRel x tm a) (hd : ∀ d, o.dst = some d → d < a.tmps.size) (hfr : ∀ j, base ≤ j → j < base + 4 → ¬ x.U j)
    (h : OpStep P tv ops base o tm x.hp v hp' fp)
    (hK : ∀ a' w' γ', SRel ⟨w', γ', hp', x.CM, (x.more base).U⟩ (putF o.dst v tm) a' → Fr x ⟨w', γ', hp', x.CM, (x.more base).U⟩ →
      Ev x.U x ⟨w', γ', hp', x.CM, (x.more base).U⟩ → a'.tmps.size = a.tmps.size → K a' w') : wpOp P ops Q i K a x.w := by
  unfold wpOp
  rw [hi]
  dsimp only
  rcases h.go with ⟨hg, hx⟩ | ⟨hg, rfl, rfl, _⟩
  · rw [wanted_of hs hg]
    simp only [if_true]
    exact .inl (op_sim htv hs hd hfr hx K Q hK)
  · rw [wanted_of hs hg]
    simp only [Bool.false_eq_true, if_false]
    exact hK _ _ x.γ ⟨hs.toHRel.more base, tm_put (fun t => (hs.tm t).on (Fr.more base) (Ev.more base)) (VRel.tup #[] [] rfl fun j y hj => by simp at hj) hd, (Act.put_defers' _ _ _).trans hs.defers⟩
      (Fr.more base) (Ev.more base) (Act.put_size _ _ _)

/-! ### What an operation looks at -/

theorem sem_congr {tv : Tv} {base : Nat} {ρ ρ' : Operand → V} (o : Oper) (h : ∀ x ∈ o.op.operands, ρ x = ρ' x) : sem tv base ρ o = sem tv base ρ' o := by
  obtain ⟨dst, op, type, pos, after, guard⟩ := o
  have pairs : ∀ ps : Array (Nat × Operand), (∀ x ∈ ps.map (·.2), ρ x = ρ' x) → (ps.toList.map fun p => (p.1, ρ p.2)) = (ps.toList.map fun p => (p.1, ρ' p.2)) := fun ps hp =>
    List.map_congr_left fun p hm => by simp only [hp p.2 (Array.mem_map.2 ⟨p, Array.mem_toList_iff.1 hm, rfl⟩)]
  have args : ∀ xs : Array Operand, (∀ x ∈ xs, ρ x = ρ' x) → xs.toList.map ρ = xs.toList.map ρ' := fun xs hp => List.map_congr_left fun p hm => hp p (Array.mem_toList_iff.1 hm)
  cases op <;> simp only [Op.operands] at h <;> simp only [sem, semOp]
  case build t ps => rw [pairs ps fun x hx => h x (by simpa using hx)]
  case buildSlice t n ps => rw [pairs ps fun x hx => h x (by simpa using hx)]
  case makeFunc fn first captured =>
    cases fn <;> simp only
    rw [args captured fun x hx => h x (by simp [hx])]
  case call c =>
    obtain ⟨callee, as, ts⟩ := c
    cases callee <;> simp only [Call.operands] at h ⊢
    · rw [args as fun x hx => h x (by simp [hx]), h _ (by simp)]
    · rw [args as fun x hx => h x (by simpa using hx)]
  case unOp u t y => cases u <;> simp_all
  case makeMap t r => cases r <;> simp_all
  case slice t x lo hi mx => cases lo <;> cases hi <;> cases mx <;> simp_all
  all_goals (first | rfl | (simp_all; done))

theorem OpStep.looks {P : Program} {tv : Tv} {ops : Array Oper} {base : Nat} {o : Oper} {tm tm' : Nat → V} {hp : HpF} {v : V} {hp' : HpF} {fp : Fp}
    (h : OpStep P tv ops base o tm hp v hp' fp) (he : ∀ t ∈ o.looksAt ops, tm' t = tm t) : OpStep P tv ops base o tm' hp v hp' fp := by
  have h1 : sem tv base (operV tm') o = sem tv base (operV tm) o := sem_congr o fun y hy => by
    cases y with
    | tmp t => exact he t (List.mem_append_left _ (List.mem_filterMap.2 ⟨.tmp t, by simpa using hy, rfl⟩))
    | _ => rfl
  have h2 : guardV ops tm' o = guardV ops tm o := by
    unfold guardV
    cases hg : o.guard with
    | none => rfl
    | some gw =>
      obtain ⟨g, want⟩ := gw
      dsimp only
      cases ht : (ops[g]?).bind (·.dst) with
      | none => rfl
      | some t =>
        dsimp only
        rw [he t (by simp [Oper.looksAt, hg, ht])]
  exact ⟨by rw [h1, h2]; exact h.go⟩

theorem OpStep.local {P : Program} {tv : Tv} {ops : Array Oper} {base : Nat} {o : Oper} {tm : Nat → V} {hp : HpF} {v : V} {hp' : HpF} {fp : Fp}
    (h : OpStep P tv ops base o tm hp v hp' fp) (G : HpF) (hG : ∀ b, b ∈ fp.rd → G b = hp b) :
    ∃ G', OpStep P tv ops base o tm G v G' fp ∧ (∀ b, b ∈ fp.wr → G' b = hp' b) ∧ ∀ b, b ∉ fp.wr → G' b = G b := by
  rcases h.go with ⟨hg, hx⟩ | ⟨hg, rfl, rfl, rfl⟩
  · obtain ⟨G', g1, g2⟩ := Prog.exec_local _ hx G hG
    exact ⟨G', ⟨.inl ⟨hg, g1⟩⟩, g2, Prog.exec_keeps _ g1⟩
  · exact ⟨G, ⟨.inr ⟨hg, rfl, rfl, rfl⟩⟩, fun b hb => by simp at hb, fun _ _ => rfl⟩

theorem OpStep.keeps {P : Program} {tv : Tv} {ops : Array Oper} {base : Nat} {o : Oper} {tm : Nat → V} {hp : HpF} {v : V} {hp' : HpF} {fp : Fp}
    (h : OpStep P tv ops base o tm hp v hp' fp) (b : Nat) (hb : b ∉ fp.wr) : hp' b = hp b := by
  rcases h.go with ⟨hg, hx⟩ | ⟨hg, rfl, rfl, rfl⟩
  · exact Prog.exec_keeps _ hx b hb
  · rfl

end Go.Vs

/- A region whose operations may run in every order that its edges allow. -/
namespace Go.Vs

def apartF (f g : Fp) : Bool := f.wr.all (fun b => !(g.rd.contains b) && !(g.wr.contains b)) && g.wr.all (fun b => !(f.rd.contains b))

theorem apartF_spec {f g : Fp} (h : apartF f g = true) : (∀ b, b ∈ f.wr → b ∉ g.rd) ∧ (∀ b, b ∈ f.wr → b ∉ g.wr) ∧ (∀ b, b ∈ g.wr → b ∉ f.rd) := by
  simp only [apartF, Bool.and_eq_true, List.all_eq_true, Bool.not_eq_true', List.contains_eq_mem, decide_eq_false_iff_not] at h
  exact ⟨fun b hb => (h.1 b hb).1, fun b hb => (h.1 b hb).2, fun b hb => h.2 b hb⟩

def Closed (ops : Array Oper) (S : Nat → Bool) : Prop :=
  ∀ (k : Nat) (o : Oper) (e : Edge), S k = true → ops[k]? = some o → e ∈ o.after → Region.binds .any e = true → S e.on = true

def Reach (ops : Array Oper) (j i : Nat) : Prop := ∀ S : Nat → Bool, Closed ops S → S j = true → S i = true

structure Ordered (ops : Array Oper) (fps : Nat → Fp) : Prop where
  ord : ∀ (i j : Nat) (oi oj : Oper), i < j → ops[i]? = some oi → ops[j]? = some oj → Reach ops j i ∨ (oi.apart ops oj = true ∧ apartF (fps i) (fps j) = true)
  down : ∀ (j : Nat) (o : Oper) (e : Edge), ops[j]? = some o → e ∈ o.after → Region.binds .any e = true → e.on < j

structure RunS (P : Program) (tv : Tv) (ops : Array Oper) (nx : Nat) (tms : Nat → Nat → V) (hps : Nat → HpF) (vs : Nat → V) (fps : Nat → Fp) : Prop where
  none : ∀ (k : Nat), ops.size ≤ k → ∀ b, b ∉ (fps k).wr
  step : ∀ (i : Nat) (o : Oper), ops[i]? = some o → OpStep P tv ops (nx + 4 * i) o (tms i) (hps i) (vs i) (hps (i + 1)) (fps i) ∧ tms (i + 1) = putF o.dst (vs i) (tms i)

section
variable {P : Program} {tv : Tv} {ops : Array Oper} {nx : Nat} {tms : Nat → Nat → V} {hps : Nat → HpF} {vs : Nat → V} {fps : Nat → Fp}

def fT (ops : Array Oper) (vs : Nat → V) (t k : Nat) : Option V := if (ops[k]?).bind (·.dst) = some t then some (vs k) else none
def fH (hps : Nat → HpF) (fps : Nat → Fp) (b k : Nat) : Option (Option Blk) := if b ∈ (fps k).wr then some (hps (k + 1) b) else none

theorem RunS.tmAll (h : RunS P tv ops nx tms hps vs fps) (t : Nat) : ∀ i, i ≤ ops.size → lw (fT ops vs t) (fun _ => true) (tms 0 t) i = tms i t
  | 0, _ => rfl
  | i + 1, hi => by
    have ho : ops[i]? = some ops[i] := Array.getElem?_eq_getElem (by omega)
    rw [(h.step i _ ho).2]
    by_cases hd : (ops[i]).dst = some t
    · rw [lw_take (v := vs i) _ _ _ _ rfl (by simp [fT, ho, hd])]
      simp [putF, hd]
    · rw [lw_skip _ _ _ _ (.inr (by simp [fT, ho, hd])), RunS.tmAll h t i (by omega)]
      cases hdd : (ops[i]).dst with
      | none => rfl
      | some d =>
        have : ¬ t = d := fun e => hd (by rw [hdd, e])
        simp [putF, this]

theorem RunS.hpAll (h : RunS P tv ops nx tms hps vs fps) (b : Nat) : ∀ i, i ≤ ops.size → lw (fH hps fps b) (fun _ => true) (hps 0 b) i = hps i b
  | 0, _ => rfl
  | i + 1, hi => by
    have ho : ops[i]? = some ops[i] := Array.getElem?_eq_getElem (by omega)
    by_cases hd : b ∈ (fps i).wr
    · rw [lw_take (v := hps (i + 1) b) _ _ _ _ rfl (by simp [fH, hd])]
    · rw [lw_skip _ _ _ _ (.inr (by simp [fH, hd])), RunS.hpAll h b i (by omega), (h.step i _ ho).1.keeps b hd]

theorem putF_eq (dst : Option Nat) (v : V) (tm : Nat → V) (t : Nat) : putF dst v tm t = (if dst = some t then some v else none).getD (tm t) := by
  cases dst with
  | none => rfl
  | some d =>
    simp only [putF, Option.some.injEq]
    by_cases h : t = d
    · simp [h]
    · have : ¬ d = t := fun e => h e.symm
      simp [h, this]

/-- The names that are in use once the operations of S have run. -/
def US (U : Nat → Prop) (nx : Nat) (S : Nat → Bool) (n : Nat) : Nat → Prop := fun b => U b ∨ ∃ k, k < n ∧ S k = true ∧ nx + 4 * k ≤ b ∧ b < nx + 4 * k + 4

theorem ready_next {listed : Array Bool} (hsz : listed.size = ops.size) (hdown : ∀ (j : Nat) (o : Oper) (e : Edge), ops[j]? = some o → e ∈ o.after → Region.binds .any e = true → e.on < j)
    (hr : Region.ready .any ops listed = []) : ∀ k, k < ops.size → listed.getD k false = true := by
  intro k
  induction k using Nat.strongRecOn with
  | _ k ih =>
    intro hk
    cases hl : listed.getD k false with
    | true => rfl
    | false =>
      have : k ∈ Region.ready .any ops listed := by
        rw [mem_ready]
        have h2 : listed.getD k true = false := by
          rw [Array.getD_eq_getD_getElem?, Array.getElem?_eq_getElem (by omega)] at hl ⊢
          simpa using hl
        refine ⟨h2, ops[k], Array.getElem?_eq_getElem hk, fun e he hb => ?_⟩
        have := hdown k _ e (Array.getElem?_eq_getElem hk) he hb
        exact ih e.on this (by omega)
      rw [hr] at this
      simp at this

theorem region_any (htv : TvOk P tv) (hrun : RunS P tv ops nx tms hps vs fps) (hord : Ordered ops fps) {Q : Exit → Act → World → Prop} {x : Cx} {N : Nat}
    (hd : ∀ (i : Nat) (o : Oper) (d : Nat), ops[i]? = some o → o.dst = some d → d < N) (hU : ∀ b, x.U b → b < nx)
    (hK : ∀ a' w' γ', SRel ⟨w', γ', hps ops.size, x.CM, US x.U nx (fun _ => true) ops.size⟩ (tms ops.size) a' → Fr x ⟨w', γ', hps ops.size, x.CM, US x.U nx (fun _ => true) ops.size⟩ →
      Ev x.U x ⟨w', γ', hps ops.size, x.CM, US x.U nx (fun _ => true) ops.size⟩ → a'.tmps.size = N → Q .normal a' w') :
    ∀ (fuel : Nat) (listed : Array Bool) (a : Act) (y : Cx), listed.size = ops.size → listed.toList.countP (fun b => !b) = fuel → a.tmps.size = N →
      Closed ops (fun k => listed.getD k false) →
      y.hp = (fun b => lw (fH hps fps b) (fun k => listed.getD k false) (hps 0 b) ops.size) → y.CM = x.CM → y.U = US x.U nx (fun k => listed.getD k false) ops.size →
      SRel y (fun t => lw (fT ops vs t) (fun k => listed.getD k false) (tms 0 t) ops.size) a → Fr x y → Ev x.U x y → wpAny P .any ops Q fuel listed a y.w := by
  have fin : ∀ (listed : Array Bool) (a : Act) (y : Cx), a.tmps.size = N → (∀ k, k < ops.size → listed.getD k false = true) →
      y.hp = (fun b => lw (fH hps fps b) (fun k => listed.getD k false) (hps 0 b) ops.size) → y.CM = x.CM → y.U = US x.U nx (fun k => listed.getD k false) ops.size →
      SRel y (fun t => lw (fT ops vs t) (fun k => listed.getD k false) (tms 0 t) ops.size) a → Fr x y → Ev x.U x y → Q .normal a y.w := by
    intro listed a y hsz hall h1 h2 h3 hs hf he
    have e1 : (fun t => lw (fT ops vs t) (fun k => listed.getD k false) (tms 0 t) ops.size) = tms ops.size := by
      funext t
      rw [lw_eq _ _ _ ops.size ops.size (Nat.le_refl _) fun k hk _ => ⟨fun _ => hall k hk, fun h => absurd hk (by omega)⟩]
      exact hrun.tmAll t _ (Nat.le_refl _)
    have e2 : y.hp = hps ops.size := by
      rw [h1]
      funext b
      rw [lw_eq _ _ _ ops.size ops.size (Nat.le_refl _) fun k hk _ => ⟨fun _ => hall k hk, fun h => absurd hk (by omega)⟩]
      exact hrun.hpAll b _ (Nat.le_refl _)
    have e3 : y.U = US x.U nx (fun _ => true) ops.size := by
      rw [h3]
      funext b
      apply propext
      unfold US
      constructor
      · rintro (h | ⟨k, hk, _, h⟩)
        · exact .inl h
        · exact .inr ⟨k, hk, rfl, h⟩
      · rintro (h | ⟨k, hk, _, h⟩)
        · exact .inl h
        · exact .inr ⟨k, hk, hall k hk, h⟩
    obtain ⟨yw, yγ, yhp, yCM, yU⟩ := y
    dsimp only at e2 e3 h2
    subst e2 h2 e3
    rw [e1] at hs
    exact hK a yw yγ hs hf he hsz
  intro fuel
  induction fuel with
  | zero =>
    intro listed a y hlsz hcnt hsz hcl h1 h2 h3 hs hf he
    have hall : ∀ k, k < ops.size → listed.getD k false = true := fun k hk => by
      have := List.countP_eq_zero.1 hcnt (listed.toList[k]'(by simpa using (by omega))) (List.getElem_mem _)
      rw [Array.getD_eq_getD_getElem?, Array.getElem?_eq_getElem (by omega)]
      simpa using this
    refine ⟨?_, fin listed a y hsz hall h1 h2 h3 hs hf he⟩
    apply List.eq_nil_iff_forall_not_mem.2
    intro k hk
    obtain ⟨h0, o, ho, _⟩ := mem_ready.1 hk
    have hk' : k < ops.size := (Array.getElem?_eq_some_iff.1 ho).1
    have := hall k hk'
    rw [Array.getD_eq_getD_getElem?, Array.getElem?_eq_getElem (by omega)] at this h0
    simp only [Option.getD_some] at this h0
    rw [h0] at this
    simp at this
  | succ fuel ih =>
    intro listed a y hlsz hcnt hsz hcl h1 h2 h3 hs hf he
    refine ⟨fun hr => fin listed a y hsz (ready_next hlsz hord.down hr) h1 h2 h3 hs hf he, fun i hi => ?_⟩
    obtain ⟨hi0, o, ho, hpre⟩ := mem_ready.1 hi
    have hin : i < ops.size := (Array.getElem?_eq_some_iff.1 ho).1
    have hSi : listed.getD i false = false := by
      rw [Array.getD_eq_getD_getElem?, Array.getElem?_eq_getElem (by omega)] at hi0 ⊢
      simpa using hi0
    -- the set with i
    have hS' : ∀ k, (listed.setIfInBounds i true).getD k false = (listed.getD k false || k == i) := fun k => by
      by_cases hk : k = i
      · subst hk
        simp [hlsz, hin]
      · rw [getD_set_ne false (fun e => hk e.symm)]
        simp [hk]
    have hcl' : Closed ops (fun k => (listed.setIfInBounds i true).getD k false) := fun k ok e hk hok hem hb => by
      dsimp only at hk ⊢
      rw [hS'] at hk ⊢
      rcases Bool.or_eq_true _ _ ▸ hk with hk | hk
      · rw [show listed.getD e.on false = true from hcl k ok e hk hok hem hb]; rfl
      · have hk : k = i := by simpa using hk
        subst hk
        rw [ho] at hok
        cases hok
        rw [show listed.getD e.on false = true from hpre e hem hb]; rfl
    have before : ∀ k, k < i → Reach ops i k → listed.getD k false = true := fun k hk hre => by
      have := hre _ hcl' (by rw [hS']; simp)
      rw [hS'] at this
      have hne : (k == i) = false := by simp; omega
      rw [hne] at this
      simpa using this
    have after : ∀ k, Reach ops k i → listed.getD k false = false := fun k hre => by
      cases hk : listed.getD k false with
      | false => rfl
      | true =>
        have := hre _ hcl hk
        rw [hSi] at this
        simp at this
    -- conflicts
    have conf : ∀ (k : Nat) (ok : Oper), k ≠ i → ops[k]? = some ok →
        ¬ ((∀ d, ok.dst = some d → d ∉ o.looksAt ops ∧ o.dst ≠ some d) ∧ ∀ b, b ∈ (fps k).wr → b ∉ (fps i).rd ∧ b ∉ (fps i).wr) →
        (k < i → listed.getD k false = true) ∧ (i ≤ k → listed.getD k false = false) := by
      intro k ok hne hok hc
      constructor
      · intro hk
        rcases hord.ord k i ok o hk hok ho with h | ⟨h1, h2⟩
        · exact before k hk h
        · obtain ⟨p1, p2, p3⟩ := Oper.apart_spec h1
          obtain ⟨q1, q2, q3⟩ := apartF_spec h2
          exact absurd ⟨fun d hd => ⟨p1 d hd, p2 d hd⟩, fun b hb => ⟨q1 b hb, q2 b hb⟩⟩ hc
      · intro hk
        rcases hord.ord i k o ok (by omega) ho hok with h | ⟨h1, h2⟩
        · exact after k h
        · obtain ⟨p1, p2, p3⟩ := Oper.apart_spec h1
          obtain ⟨q1, q2, q3⟩ := apartF_spec h2
          exact absurd ⟨fun d hd => ⟨p3 d hd, fun e => p2 d e hd⟩, fun b hb => ⟨q3 b hb, fun e => q2 b e hb⟩⟩ hc
    have dstAt : ∀ k t, fT ops vs t k ≠ none → ∃ ok, ops[k]? = some ok ∧ ok.dst = some t := fun k t h => by
      unfold fT at h
      split at h
      · rename_i h'
        exact Option.bind_eq_some_iff.1 h'
      · exact absurd rfl h
    have wrAt : ∀ k b, fH hps fps b k ≠ none → b ∈ (fps k).wr := fun k b h => by
      unfold fH at h
      split at h
      · assumption
      · exact absurd rfl h
    obtain ⟨hst, hnext⟩ := hrun.step i o ho
    -- the operation, in this state
    have hst1 := hst.looks (tm' := fun t => lw (fT ops vs t) (fun k => listed.getD k false) (tms 0 t) ops.size) fun t ht => by
      rw [lw_eq _ _ _ i ops.size (by omega) fun k hk hkf => ?_]
      · exact hrun.tmAll t i (by omega)
      · obtain ⟨ok, hok, hdk⟩ := dstAt k t hkf
        by_cases hki : k = i
        · subst hki; exact ⟨fun h => absurd h (by omega), fun _ => hSi⟩
        · exact conf k ok hki hok fun h => (h.1 t hdk).1 ht
    obtain ⟨G', hst2, hG1, hG2⟩ := hst1.local y.hp fun b hb => by
      rw [h1]
      dsimp only
      rw [lw_eq _ _ _ i ops.size (by omega) fun k hk hkf => ?_]
      · exact hrun.hpAll b i (by omega)
      · by_cases hki : k = i
        · subst hki; exact ⟨fun h => absurd h (by omega), fun _ => hSi⟩
        · exact conf k _ hki (Array.getElem?_eq_getElem hk) fun h => (h.2 b (wrAt k b hkf)).1 hb
    have hfr : ∀ j, nx + 4 * i ≤ j → j < nx + 4 * i + 4 → ¬ y.U j := fun j hj1 hj2 hu => by
      rw [h3] at hu
      rcases hu with hu | ⟨k, hk, hsk, hk1, hk2⟩
      · have := hU j hu; omega
      · have : k = i := by omega
        subst this
        dsimp only at hsk
        rw [hSi] at hsk
        simp at hsk
    have etm : putF o.dst (vs i) (fun t => lw (fT ops vs t) (fun k => listed.getD k false) (tms 0 t) ops.size) =
        fun t => lw (fT ops vs t) (fun k => (listed.setIfInBounds i true).getD k false) (tms 0 t) ops.size := by
      funext t
      rw [lw_add (fT ops vs t) (fun k => listed.getD k false) _ _ i hS' (fun k hk h1 h2 => ?_) ops.size hin, putF_eq]
      · simp only [fT, ho, Option.bind_some]
      · obtain ⟨ok, hok, hdk⟩ := dstAt k t h2
        obtain ⟨oi, hoi, hdi⟩ := dstAt i t h1
        rw [ho] at hoi
        cases hoi
        exact (conf k ok (by omega) hok fun h => (h.1 t hdk).2 hdi).2 (by omega)
    have ehp : G' = fun b => lw (fH hps fps b) (fun k => (listed.setIfInBounds i true).getD k false) (hps 0 b) ops.size := by
      funext b
      rw [lw_add (fH hps fps b) (fun k => listed.getD k false) _ _ i hS' (fun k hk g1 g2 => ?_) ops.size hin]
      · by_cases hb : b ∈ (fps i).wr
        · rw [hG1 b hb]
          simp [fH, hb]
        · rw [hG2 b hb, h1]
          simp [fH, hb]
      · obtain ⟨ok, hok⟩ : ∃ ok, ops[k]? = some ok := by
          rcases Nat.lt_or_ge k ops.size with h' | h'
          · exact ⟨_, Array.getElem?_eq_getElem h'⟩
          · exfalso
            exact hrun.none k h' b (wrAt k b g2)
        exact (conf k ok (by omega) hok fun h => (h.2 b (wrAt k b g2)).2 (wrAt i b g1)).2 (by omega)
    have eU : (y.more (nx + 4 * i)).U = US x.U nx (fun k => (listed.setIfInBounds i true).getD k false) ops.size := by
      funext b
      apply propext
      show (y.U b ∨ _) ↔ _
      rw [h3]
      unfold US
      constructor
      · rintro ((h | ⟨k, hk, hsk, h⟩) | h)
        · exact .inl h
        · exact .inr ⟨k, hk, by show (listed.setIfInBounds i true).getD k false = true; rw [hS', show listed.getD k false = true from hsk]; rfl, h⟩
        · exact .inr ⟨i, hin, by show (listed.setIfInBounds i true).getD i false = true; rw [hS']; simp, h.1, by omega⟩
      · rintro (h | ⟨k, hk, hsk, h⟩)
        · exact .inl (.inl h)
        · replace hsk : (listed.setIfInBounds i true).getD k false = true := hsk
          rw [hS'] at hsk
          rcases Bool.or_eq_true _ _ ▸ hsk with hsk | hsk
          · exact .inl (.inr ⟨k, hk, hsk, h⟩)
          · have : k = i := by simpa using hsk
            subst this
            exact .inr ⟨h.1, by omega⟩
    refine step_sim htv ho hs (fun d hd' => by rw [hsz]; exact hd i o d ho hd') hfr hst2 fun a' w' γ' gs gf ge gsz => ?_
    have := ih (listed.setIfInBounds i true) a' ⟨w', γ', G', y.CM, (y.more (nx + 4 * i)).U⟩ (by simpa using hlsz) ?_ (gsz.trans hsz) hcl' ehp h2 eU (by rw [← etm]; exact gs) (hf.trans gf)
      (he.trans (ge.sub he.1))
    · exact this
    · have hl : i < listed.size := by omega
      have hli : listed[i] = false := by
        rw [Array.getD_eq_getD_getElem?, Array.getElem?_eq_getElem hl] at hSi
        simpa using hSi
      rw [Array.toList_setIfInBounds, List.countP_set (by simpa using hl), hcnt]
      simp [hli]
end
end Go.Vs

/- Regions as conditions: the light form of code, the check of orders, the run in text order. -/
namespace Go.Vs

/-! ### Which operations touch no block, which write none -/

def Prog.still : Prog → Prop
  | .ret _ | .fail => True
  | .req _ k => k.still
  | _ => False

def Prog.ro : Prog → Prop
  | .ret _ | .fail => True
  | .req _ k => k.ro
  | .get _ k => ∀ blk, (k blk).ro
  | _ => False

theorem Prog.still_fp {P : Program} : ∀ (p : Prog) {H : HpF} {v : V} {H' : HpF} {fp : Fp}, p.still → p.exec P H v H' fp → fp = ⟨[], []⟩
  | .ret _, _, _, _, _, _, h => h.2.2
  | .fail, _, _, _, _, _, h => h.elim
  | .req _ k, _, _, _, _, hs, h => still_fp k hs h.2
  | .get .., _, _, _, _, hs, _ => hs.elim
  | .put .., _, _, _, _, hs, _ => hs.elim
  | .call .., _, _, _, _, hs, _ => hs.elim

theorem Prog.ro_fp {P : Program} : ∀ (p : Prog) {H : HpF} {v : V} {H' : HpF} {fp : Fp}, p.ro → p.exec P H v H' fp → fp.wr = []
  | .ret _, _, _, _, _, _, h => by rw [h.2.2]
  | .fail, _, _, _, _, _, h => h.elim
  | .req _ k, _, _, _, _, hs, h => ro_fp k hs h.2
  | .get b k, _, _, _, _, hs, h => by
    obtain ⟨blk, fp', _, h2, rfl⟩ := h
    have := ro_fp (k blk) (hs blk) h2
    exact this
  | .put .., _, _, _, _, hs, _ => hs.elim
  | .call .., _, _, _, _, hs, _ => hs.elim

def opStill : Op → Bool
  | .move _ | .assign _ | .pick .. | .build .. | .binOp .. | .unOp .. | .convert .. | .makeFunc .. | .field .. | .extract .. => true
  | .call { callee := .builtin .min, .. } => true
  | _ => false

def opRo : Op → Bool
  | .load .. | .nilCheck _ | .fieldAddr .. | .indexAddr .. => true
  | .call { callee := .builtin .len, .. } => true
  | _ => false

theorem retO_still (v : Option V) : (retO v).still := by cases v <;> trivial

theorem opStill_still {tv : Tv} {base : Nat} {ρ : Operand → V} {op : Op} (h : opStill op = true) : (semOp tv base ρ op).still := by
  unfold opStill at h
  split at h <;> first
    | (simp at h; done)
    | skip
  all_goals simp only [semOp]
  · trivial
  · trivial
  · split <;> trivial
  · split
    · exact retO_still _
    · exact retO_still _
    · trivial
  · unfold binV
    repeat' split
    all_goals first | trivial | skip
  · rename_i u _ _
    cases u <;> first | (dsimp only; split <;> trivial) | trivial
  · split <;> trivial
  · rename_i f first cap
    cases f <;> first | trivial | (dsimp only; split <;> first | trivial | (split <;> trivial))
  · unfold fieldV
    repeat' split
    all_goals first | exact retO_still _ | trivial
  · split
    · exact retO_still _
    · trivial
  · unfold builtinV
    repeat' split
    all_goals first | exact retO_still _ | trivial | (rename_i h; simp at h)

theorem live_ro (v : V) (k : Prog) (hk : k.ro) : (live v k).ro := by
  unfold live
  split
  · intro blk; cases blk <;> first | exact hk | trivial
  · intro blk; cases blk <;> first | exact hk | trivial
  · intro blk; cases blk <;> first | exact hk | trivial
  · exact hk
  · exact hk
  · trivial

theorem retO_ro (v : Option V) : (retO v).ro := by cases v <;> trivial

theorem opRo_ro {tv : Tv} {base : Nat} {ρ : Operand → V} {op : Op} (h : opRo op = true) : (semOp tv base ρ op).ro := by
  unfold opRo at h
  split at h <;> first
    | (simp at h; done)
    | skip
  all_goals simp only [semOp]
  · unfold withTy
    split
    · unfold rd
      split
      · exact retO_ro _
      · exact retO_ro _
      · intro blk; cases blk <;> first | exact retO_ro _ | trivial
      · intro blk
        cases blk with
        | sl esz es fz =>
          dsimp only [Prog.ro]
          split <;> first | exact retO_ro _ | trivial
        | _ => trivial
      · trivial
    · trivial
  · split
    · trivial
    · exact live_ro _ _ trivial
  · unfold fieldAddrV
    repeat' split
    all_goals first | trivial | exact live_ro _ _ trivial
  · unfold indexV
    repeat' split
    all_goals first | trivial | exact live_ro _ _ trivial | skip
    all_goals first | (dsimp only [Prog.ro]; split <;> trivial) | (intro blk; cases blk <;> trivial)
  · unfold builtinV
    repeat' split
    all_goals first | trivial | (rename_i h; simp at h; done) | exact retO_ro _ | skip
    unfold lenV
    repeat' split
    all_goals first | trivial | (intro blk; cases blk <;> trivial)

theorem OpStep.still {P : Program} {tv : Tv} {ops : Array Oper} {base : Nat} {o : Oper} {tm : Nat → V} {hp : HpF} {v : V} {hp' : HpF} {fp : Fp}
    (h : OpStep P tv ops base o tm hp v hp' fp) (hs : opStill o.op = true) : fp = ⟨[], []⟩ := by
  rcases h.go with ⟨_, hx⟩ | ⟨_, _, _, hf⟩
  · exact Prog.still_fp _ (opStill_still hs) hx
  · exact hf

theorem OpStep.ro {P : Program} {tv : Tv} {ops : Array Oper} {base : Nat} {o : Oper} {tm : Nat → V} {hp : HpF} {v : V} {hp' : HpF} {fp : Fp}
    (h : OpStep P tv ops base o tm hp v hp' fp) (hs : opRo o.op = true) : fp.wr = [] := by
  rcases h.go with ⟨_, hx⟩ | ⟨_, _, _, hf⟩
  · exact Prog.ro_fp _ (opRo_ro hs) hx
  · rw [hf]

end Go.Vs

/- The light form of code; regions as conditions. -/
namespace Go.Vs

/-! ### Orders -/

def maskOf (o : Oper) (acc : List Nat) : Nat :=
  o.after.toList.foldl (fun m e => if Region.binds .any e then m ||| (1 <<< e.on) ||| acc.getD e.on 0 else m) 0

def masksGo : List Oper → List Nat → List Nat
  | [], acc => acc
  | o :: l, acc => masksGo l (acc ++ [maskOf o acc])

def downGo : List Oper → Nat → Bool
  | [], _ => true
  | o :: l, j => o.after.toList.all (fun e => !Region.binds .any e || decide (e.on < j)) && downGo l (j + 1)

theorem downGo_spec : ∀ (l : List Oper) (j0 : Nat), downGo l j0 = true → ∀ (j : Nat) (o : Oper) (e : Edge), l[j]? = some o → e ∈ o.after → Region.binds .any e = true → e.on < j0 + j
  | [], _, _, _, _, _, h, _, _ => by simp at h
  | o :: l, j0, h, j, ok, e, hj, he, hb => by
    simp only [downGo, Bool.and_eq_true, List.all_eq_true] at h
    cases j with
    | zero =>
      simp at hj
      subst hj
      have := h.1 e (Array.mem_toList_iff.2 he)
      simpa [hb] using this
    | succ j =>
      have := downGo_spec l (j0 + 1) h.2 j ok e (by simpa using hj) he hb
      omega

theorem foldl_mask (acc : List Nat) (i : Nat) : ∀ (l : List Edge) (m0 : Nat), (l.foldl (fun m e => if Region.binds .any e then m ||| (1 <<< e.on) ||| acc.getD e.on 0 else m) m0).testBit i = true →
    m0.testBit i = true ∨ ∃ e ∈ l, Region.binds .any e = true ∧ (i = e.on ∨ (acc.getD e.on 0).testBit i = true)
  | [], m0, h => .inl h
  | e :: l, m0, h => by
    rw [List.foldl_cons] at h
    rcases foldl_mask acc i l _ h with h | ⟨e', he, hb, hr⟩
    · split at h
      · rename_i hb
        simp only [Nat.testBit_or, Bool.or_eq_true] at h
        rcases h with (h | h) | h
        · exact .inl h
        · refine .inr ⟨e, by simp, hb, .inl ?_⟩
          rw [Nat.one_shiftLeft, Nat.testBit_two_pow] at h
          have := of_decide_eq_true h
          exact this.symm
        · exact .inr ⟨e, by simp, hb, .inr h⟩
      · exact .inl h
    · exact .inr ⟨e', List.mem_cons_of_mem _ he, hb, hr⟩

theorem masksGo_spec (ops : Array Oper) : ∀ (l : List Oper) (acc : List Nat), (∀ (k : Nat) (o : Oper), l[k]? = some o → ops[acc.length + k]? = some o) →
    (∀ j i, (acc.getD j 0).testBit i = true → Reach ops j i) → ∀ j i, ((masksGo l acc).getD j 0).testBit i = true → Reach ops j i
  | [], acc, _, h, j, i, hb => h j i hb
  | o :: l, acc, hl, h, j, i, hb => by
    refine masksGo_spec ops l (acc ++ [maskOf o acc]) (fun k ok hk => ?_) (fun j i hb => ?_) j i hb
    · have := hl (k + 1) ok (by simpa using hk)
      rw [List.length_append, List.length_singleton, show acc.length + 1 + k = acc.length + (k + 1) by omega]
      exact this
    · rcases Nat.lt_or_ge j acc.length with hj | hj
      · rw [List.getD_eq_getElem?_getD, List.getElem?_append_left hj, ← List.getD_eq_getElem?_getD] at hb
        exact h j i hb
      · rcases Nat.lt_or_ge acc.length j with hj2 | hj2
        · rw [List.getD_eq_getElem?_getD, List.getElem?_eq_none (by simp; omega)] at hb
          simp at hb
        · have : j = acc.length := by omega
          subst this
          rw [List.getD_eq_getElem?_getD, List.getElem?_append_right (Nat.le_refl _)] at hb
          simp only [Nat.sub_self, List.getElem?_cons_zero, Option.getD_some] at hb
          have ho := hl 0 o rfl
          rcases foldl_mask acc i _ 0 hb with h0 | ⟨e, he, hbe, hr⟩
          · simp at h0
          · intro S hS hSj
            have h1 : S e.on = true := hS _ o e hSj ho (Array.mem_toList_iff.1 he) hbe
            rcases hr with rfl | hr
            · exact h1
            · exact h e.on i hr S hS h1

/-- A pair that no edge binds, and that may not be swapped. -/
def pairBad (ops : Array Oper) (ms : List Nat) (p : Nat × Nat) : Bool :=
  match ops[p.1]?, ops[p.2]? with
  | some a, some b => !((ms.getD p.2 0).testBit p.1) && !(a.apart ops b)
  | _, _ => false

/-- A pair that no edge binds, of which one may write a block. -/
def pairDyn (ops : Array Oper) (ms : List Nat) (p : Nat × Nat) : Bool :=
  match ops[p.1]?, ops[p.2]? with
  | some a, some b => !(opStill a.op) && !(opStill b.op) && !(opRo a.op && opRo b.op) && !((ms.getD p.2 0).testBit p.1)
  | _, _ => false

def pairsBelow (n : Nat) : List (Nat × Nat) := (List.range n).flatMap fun j => (List.range j).map fun i => (i, j)

theorem mem_pairs {n i j : Nat} (hj : j < n) (hi : i < j) : (i, j) ∈ pairsBelow n :=
  List.mem_flatMap.2 ⟨j, List.mem_range.2 hj, List.mem_map.2 ⟨i, List.mem_range.2 hi, rfl⟩⟩

def regOk (ops : Array Oper) (ms : List Nat) : Bool := downGo ops.toList 0 && (pairsBelow ops.size).all fun p => !pairBad ops ms p

def pairsOf (ops : Array Oper) (ms : List Nat) : List (Nat × Nat) := (pairsBelow ops.size).filter (pairDyn ops ms)

def fpsOk (pairs : List (Nat × Nat)) (fs : List Fp) : Bool := pairs.all fun p => apartF (fs.getD p.1 ⟨[], []⟩) (fs.getD p.2 ⟨[], []⟩)

theorem ordered_of {P : Program} {tv : Tv} {ops : Array Oper} {nx : Nat} {tms : Nat → Nat → V} {hps : Nat → HpF} {vs : Nat → V} {fps : Nat → Fp} {fs : List Fp}
    (hrun : RunS P tv ops nx tms hps vs fps) (hfs : ∀ i, i < ops.size → fs.getD i ⟨[], []⟩ = fps i) (h1 : regOk ops (masksGo ops.toList []) = true)
    (h2 : fpsOk (pairsOf ops (masksGo ops.toList [])) fs = true) : Ordered ops fps where
  down := fun j o e hj he hb => by
    simp only [regOk, Bool.and_eq_true] at h1
    have := downGo_spec ops.toList 0 h1.1 j o e (by simpa using hj) he hb
    omega
  ord := fun i j oi oj hij hi hj => by
    have hjn : j < ops.size := (Array.getElem?_eq_some_iff.1 hj).1
    simp only [regOk, Bool.and_eq_true, List.all_eq_true] at h1
    have hb := h1.2 (i, j) (mem_pairs hjn hij)
    simp only [pairBad, hi, hj] at hb
    cases hm : ((masksGo ops.toList []).getD j 0).testBit i with
    | true =>
      exact .inl (masksGo_spec ops ops.toList [] (fun k o hk => by simpa using hk) (fun j i h => by simp at h) j i hm)
    | false =>
      rw [hm] at hb
      refine .inr ⟨by simpa using hb, ?_⟩
      have hsi := (hrun.step i oi hi).1
      have hsj := (hrun.step j oj hj).1
      by_cases hdyn : pairDyn ops (masksGo ops.toList []) (i, j) = true
      · have := List.all_eq_true.1 h2 (i, j) (List.mem_filter.2 ⟨mem_pairs hjn hij, hdyn⟩)
        rw [hfs i (by omega), hfs j hjn] at this
        exact this
      · simp only [pairDyn, hi, hj, hm, Bool.not_false, Bool.and_true, Bool.and_eq_true, Bool.not_eq_true', not_and, Bool.not_eq_false] at hdyn
        cases h3 : opStill oi.op with
        | true =>
          have := hsi.still h3
          rw [this]
          simp [apartF]
        | false =>
          cases h4 : opStill oj.op with
          | true =>
            have := hsj.still h4
            rw [this]
            simp [apartF]
          | false =>
            have := hdyn ⟨h3, h4⟩
            have e1 := hsi.ro this.1
            have e2 := hsj.ro this.2
            simp [apartF, e1, e2]

/-! ### The light form -/

structure LOp where
  dst : Option Nat
  op : Op
  guard : Option (Nat × Bool)

inductive LC where
  | skip
  | ret
  | exit (id : Nat)
  | seq (a b : LC)
  | cond (c : Operand) (a b : LC)
  | block (id : Nat) (c : LC)
  | loop (c : LC)
  | reg (draw : Bool) (ops : List LOp) (pairs : List (Nat × Nat))

def lightOp (ops : Array Oper) (o : Oper) : Option LOp :=
  match o.guard with
  | none => some ⟨o.dst, o.op, none⟩
  | some (g, want) => match (ops[g]?).bind (·.dst) with
    | some t => some ⟨o.dst, o.op, some (t, want)⟩
    | none => none

def lightOps (ops : Array Oper) : List Oper → Option (List LOp)
  | [] => some []
  | o :: l => match lightOp ops o, lightOps ops l with
    | some x, some xs => some (x :: xs)
    | _, _ => none

def dstsOk (N : Nat) : List Oper → Bool
  | [] => true
  | o :: l => (match o.dst with
    | some d => decide (d < N)
    | none => true) && dstsOk N l

def light (N : Nat) : Code → Option LC
  | .skip => some .skip
  | .label _ => some .skip
  | .ret => some .ret
  | .exit id => some (.exit id)
  | .seq a b => match light N a, light N b with
    | some x, some y => some (.seq x y)
    | _, _ => none
  | .cond c a b => match light N a, light N b with
    | some x, some y => some (.cond c x y)
    | _, _ => none
  | .block id c => match light N c with
    | some x => some (.block id x)
    | none => none
  | .loop c => match light N c with
    | some x => some (.loop x)
    | none => none
  | .region _ ops draw => match lightOps ops ops.toList with
    | some ls => if dstsOk N ops.toList then
        (if draw then (if regOk ops (masksGo ops.toList []) then some (.reg true ls (pairsOf ops (masksGo ops.toList []))) else none) else some (.reg false ls []))
      else none
    | none => none
  | _ => none

/-! ### Conditions of a region -/

def forkK (b : Bool) (K : Bool → Prop) : Prop := K b

def forkV (v : V) (S : Prop) (K : Bool → Prop) : Prop :=
  match v with
  | .c (.d (.bool b)) => forkK b K
  | .tup [] => S
  | _ => False

def putL (dst : Option Nat) (v : V) (tm : Tm) : Tm :=
  match dst with
  | some d => setL tm d v
  | none => tm

def vcL (P : Program) (tv : Tv) (nx : Nat) : List LOp → Nat → Tm → Hp → List Fp → (Tm → Hp → List Fp → Prop) → Prop
  | [], _, tm, hp, fs, K => K tm hp fs.reverse
  | o :: l, i, tm, hp, fs, K => match o.guard with
    | none => (semOp tv (nx + 4 * i) (operV (getV tm)) o.op).vc P hp fun v hp' fp => vcL P tv nx l (i + 1) (putL o.dst v tm) hp' (fp :: fs) K
    | some (t, want) => forkV (getV tm t) (vcL P tv nx l (i + 1) (putL o.dst (.tup []) tm) hp (⟨[], []⟩ :: fs) K) fun b =>
        if b = want then (semOp tv (nx + 4 * i) (operV (getV (setL tm t (.c (.d (.bool b)))))) o.op).vc P hp fun v hp' fp =>
          vcL P tv nx l (i + 1) (putL o.dst v (setL tm t (.c (.d (.bool b))))) hp' (fp :: fs) K
        else vcL P tv nx l (i + 1) (putL o.dst (.tup []) (setL tm t (.c (.d (.bool b))))) hp (⟨[], []⟩ :: fs) K

theorem getV_setL (tm : Tm) (t : Nat) (v : V) : getV (setL tm t v) = fun j => if j = t then v else getV tm j := by
  funext j
  simp only [getV, look_setL, upd]
  split <;> rfl

theorem getV_same {tm : Tm} {t : Nat} {v : V} (h : getV tm t = v) : getV (setL tm t v) = getV tm := by
  rw [getV_setL]
  funext j
  split
  · rename_i e; rw [e, h]
  · rfl

theorem getV_putL (dst : Option Nat) (v : V) (tm : Tm) : getV (putL dst v tm) = putF dst v (getV tm) := by
  cases dst with
  | none => rfl
  | some d => rw [putL, getV_setL]; rfl

theorem lightOps_get (ops : Array Oper) : ∀ (l : List Oper) (ls : List LOp), lightOps ops l = some ls → ls.length = l.length ∧ ∀ (k : Nat) (o : Oper), l[k]? = some o → ∃ lo, ls[k]? = some lo ∧ lightOp ops o = some lo
  | [], ls, h => by
    simp [lightOps] at h
    subst h
    exact ⟨rfl, fun k o hk => by simp at hk⟩
  | o :: l, ls, h => by
    simp only [lightOps] at h
    split at h
    · rename_i x xs hx hxs
      cases h
      obtain ⟨h1, h2⟩ := lightOps_get ops l xs hxs
      refine ⟨by simp [h1], fun k ok hk => ?_⟩
      cases k with
      | zero => simp at hk; subst hk; exact ⟨x, rfl, hx⟩
      | succ k => simpa using h2 k ok (by simpa using hk)
    · simp at h

/-- Put a first state in front of a run. -/
def cons' {α : Type} (x : α) (f : Nat → α) : Nat → α
  | 0 => x
  | k + 1 => f k

def VRun (P : Program) (tv : Tv) (ops : Array Oper) (nx : Nat) (K : Tm → Hp → List Fp → Prop) (l : List Oper) (i : Nat) (tm : Tm) (hp : Hp) (fs : List Fp) : Prop :=
  ∃ (tms : Nat → Nat → V) (hps : Nat → HpF) (vs : Nat → V) (fps : Nat → Fp) (tm' : Tm) (hp' : Hp), tms 0 = getV tm ∧ hps 0 = look hp ∧
      (∀ (k : Nat) (o : Oper), l[k]? = some o → OpStep P tv ops (nx + 4 * (i + k)) o (tms k) (hps k) (vs k) (hps (k + 1)) (fps k) ∧ tms (k + 1) = putF o.dst (vs k) (tms k)) ∧
      tms l.length = getV tm' ∧ hps l.length = look hp' ∧ K tm' hp' (fs.reverse ++ (List.range l.length).map fps) ∧ ∀ k, l.length ≤ k → fps k = ⟨[], []⟩

theorem vcL_sound {P : Program} {tv : Tv} {ops : Array Oper} {nx : Nat} {K : Tm → Hp → List Fp → Prop} : ∀ (l : List Oper) (ls : List LOp) (i : Nat) (tm : Tm) (hp : Hp) (fs : List Fp),
    lightOps ops l = some ls → vcL P tv nx ls i tm hp fs K → VRun P tv ops nx K l i tm hp fs
  | [], ls, i, tm, hp, fs, hl, h => by
    simp [lightOps] at hl
    subst hl
    exact ⟨fun _ => getV tm, fun _ => look hp, fun _ => .junk, fun _ => ⟨[], []⟩, tm, hp, rfl, rfl, fun k o hk => by simp at hk, rfl, rfl, by simpa [vcL] using h, fun _ _ => rfl⟩
  | o :: l, ls, i, tm, hp, fs, hl, h => by
    simp only [lightOps] at hl
    split at hl
    · rename_i lo xs hlo hxs
      cases hl
      -- what one step gives
      have go : ∀ (tm0 : Tm) (v : V) (hp1 : Hp) (fp : Fp), getV tm0 = getV tm → OpStep P tv ops (nx + 4 * i) o (getV tm) (look hp) v (look hp1) fp →
          vcL P tv nx xs (i + 1) (putL o.dst v tm0) hp1 (fp :: fs) K → VRun P tv ops nx K (o :: l) i tm hp fs := fun tm0 v hp1 fp he hst hrest => by
        obtain ⟨tms, hps, vs, fps, tm', hp', g1, g2, g3, g4, g5, g6, g7⟩ := vcL_sound l xs (i + 1) (putL o.dst v tm0) hp1 (fp :: fs) hxs hrest
        refine ⟨cons' (getV tm) tms, cons' (look hp) hps, cons' v vs, cons' fp fps, tm', hp', rfl, rfl, ?_, g4, g5, ?_, ?_⟩
        · intro k ok hk
          cases k with
          | zero =>
            simp at hk
            subst hk
            refine ⟨?_, ?_⟩
            · show OpStep P tv ops (nx + 4 * (i + 0)) o (getV tm) (look hp) v (hps 0) fp
              rw [g2]
              exact hst
            · show tms 0 = putF o.dst v (getV tm)
              rw [g1, getV_putL, he]
          | succ k =>
            have := g3 k ok (by simpa using hk)
            rw [show i + (k + 1) = i + 1 + k by omega]
            exact this
        · have e : (fp :: fs).reverse ++ (List.range l.length).map fps = fs.reverse ++ (List.range (o :: l).length).map (cons' fp fps) := by
            rw [List.length_cons, List.range_succ_eq_map, List.map_cons, List.map_map]
            simp [cons', Function.comp_def]
          rw [← e]
          exact g6
        · intro k hk
          cases k with
          | zero => simp at hk
          | succ k => exact g7 k (by simpa using hk)
      unfold lightOp at hlo
      split at hlo
      · rename_i hg
        cases hlo
        obtain ⟨v, hp1, fp, hx, hrest⟩ := Prog.vc_exec _ (show (semOp tv (nx + 4 * i) (operV (getV tm)) o.op).vc P hp _ from h)
        exact go tm v hp1 fp rfl ⟨.inl ⟨by simp [guardV, hg], hx⟩⟩ hrest
      · rename_i g want hg
        split at hlo
        · rename_i t ht
          cases hlo
          replace h : forkV (getV tm t) _ _ := h
          unfold forkV at h
          split at h
          · rename_i b hb
            replace h : (if b = want then _ else _) := h
            have hsame := getV_same hb
            have hgv : guardV ops (getV tm) o = some (b == want) := by simp [guardV, hg, ht, hb]
            split at h
            · rename_i hbw
              rw [hsame] at h
              obtain ⟨v, hp1, fp, hx, hrest⟩ := Prog.vc_exec _ h
              exact go _ v hp1 fp hsame ⟨.inl ⟨by rw [hgv, hbw]; simp, hx⟩⟩ hrest
            · rename_i hbw
              exact go _ (.tup []) hp ⟨[], []⟩ hsame ⟨.inr ⟨by rw [hgv]; simpa using hbw, rfl, rfl, rfl⟩⟩ h
          · rename_i hb
            have hgv : guardV ops (getV tm) o = some false := by simp [guardV, hg, ht, hb]
            exact go _ (.tup []) hp ⟨[], []⟩ rfl ⟨.inr ⟨hgv, rfl, rfl, rfl⟩⟩ h
          · exact h.elim
        · simp at hlo
    · simp at hl

end Go.Vs

/- A logic of light code over abstract states: its meaning, and the rule of a region. -/
namespace Go.Vs

def St.cx (σ : St) (w : World) (γ : Gam) (CM : Nat → Prop) : Cx := ⟨w, γ, look σ.hp, CM, fun b => b < σ.nx⟩

/-- What a program's facts must be. -/
structure Env (P : Program) (tv : Tv) : Prop where
  tv : TvOk P tv
  mix : P.follows .mixedOrders = true

def Post (N n0 : Nat) (x : Cx) (Q : Exit → St → Prop) : Exit → Act → World → Prop := fun e a' w' =>
  ∃ σ' γ', Q e σ' ∧ n0 ≤ σ'.nx ∧ a'.tmps.size = N ∧ SRel (σ'.cx w' γ' x.CM) (getV σ'.tm) a' ∧ Fr x (σ'.cx w' γ' x.CM) ∧ Ev (fun b => b < n0) x (σ'.cx w' γ' x.CM)

/-- From state σ on, the code ends as Q says. -/
def T (P : Program) (N n0 : Nat) (σ : St) (L : LC) (Q : Exit → St → Prop) : Prop :=
  n0 ≤ σ.nx → ∀ (c : Code), light N c = some L → ∀ (CM : Nat → Prop) (γ : Gam) (a : Act) (w : World), a.tmps.size = N →
    SRel (σ.cx w γ CM) (getV σ.tm) a → c.wp P (Post N n0 (σ.cx w γ CM) Q) a w

section
variable {P : Program} {tv : Tv} {N n0 : Nat} {σ : St} {Q : Exit → St → Prop}

theorem Post.mono {x : Cx} {Q Q' : Exit → St → Prop} (h : ∀ e σ, Q e σ → Q' e σ) {e : Exit} {a : Act} {w : World} (hp : Post N n0 x Q e a w) : Post N n0 x Q' e a w := by
  obtain ⟨σ', γ', h1, h2⟩ := hp
  exact ⟨σ', γ', h _ _ h1, h2⟩

theorem T.mono {L : LC} {Q' : Exit → St → Prop} (h : T P N n0 σ L Q) (hq : ∀ e σ, Q e σ → Q' e σ) : T P N n0 σ L Q' :=
  fun hn c hc CM γ a w ha hs => wp_mono (h hn c hc CM γ a w ha hs) fun _ _ _ hp => hp.mono hq

theorem Post.here {a : Act} {w : World} {γ : Gam} {CM : Nat → Prop} {e : Exit} (hn : n0 ≤ σ.nx) (ha : a.tmps.size = N) (hs : SRel (σ.cx w γ CM) (getV σ.tm) a) (hq : Q e σ) :
    Post N n0 (σ.cx w γ CM) Q e a w :=
  ⟨σ, γ, hq, hn, ha, hs, Fr.refl _, Ev.refl fun _ hb => Nat.lt_of_lt_of_le hb hn⟩

theorem Post.trans {x : Cx} {σ1 : St} {w1 : World} {γ1 : Gam} {e : Exit} {a : Act} {w : World} (hf : Fr x (σ1.cx w1 γ1 x.CM)) (he : Ev (fun b => b < n0) x (σ1.cx w1 γ1 x.CM))
    (h : Post N n0 (σ1.cx w1 γ1 x.CM) Q e a w) : Post N n0 x Q e a w := by
  obtain ⟨σ', γ', h1, h2, h3, h4, h5, h6⟩ := h
  exact ⟨σ', γ', h1, h2, h3, h4, hf.trans h5, he.trans h6⟩

/-! ### Inversions of the light form -/

theorem light_skip {c : Code} (h : light N c = some .skip) : c = .skip ∨ ∃ l, c = .label l := by
  cases c <;> simp only [light] at h <;> (repeat' split at h) <;> simp_all

theorem light_ret {c : Code} (h : light N c = some .ret) : c = .ret := by
  cases c <;> simp only [light] at h <;> (repeat' split at h) <;> simp_all

theorem light_exit {c : Code} {id : Nat} (h : light N c = some (.exit id)) : c = .exit id := by
  cases c <;> simp only [light] at h <;> (repeat' split at h) <;> simp_all

theorem light_seq {c : Code} {a b : LC} (h : light N c = some (.seq a b)) : ∃ x y, c = .seq x y ∧ light N x = some a ∧ light N y = some b := by
  cases c <;> simp only [light] at h <;> (repeat' split at h) <;> simp_all
  exact ⟨_, _, ⟨rfl, rfl⟩, by assumption, by assumption⟩

theorem light_cond {c : Code} {o : Operand} {a b : LC} (h : light N c = some (.cond o a b)) : ∃ x y, c = .cond o x y ∧ light N x = some a ∧ light N y = some b := by
  cases c <;> simp only [light] at h <;> (repeat' split at h) <;> simp_all
  exact ⟨_, _, ⟨rfl, rfl⟩, by assumption, by assumption⟩

theorem light_block {c : Code} {id : Nat} {a : LC} (h : light N c = some (.block id a)) : ∃ x, c = .block id x ∧ light N x = some a := by
  cases c <;> simp only [light] at h <;> (repeat' split at h) <;> simp_all

theorem light_loop {c : Code} {a : LC} (h : light N c = some (.loop a)) : ∃ x, c = .loop x ∧ light N x = some a := by
  cases c <;> simp only [light] at h <;> (repeat' split at h) <;> simp_all

theorem light_reg {c : Code} {d : Bool} {ls : List LOp} {ps : List (Nat × Nat)} (h : light N c = some (.reg d ls ps)) :
    ∃ id ops, c = .region id ops d ∧ lightOps ops ops.toList = some ls ∧ dstsOk N ops.toList = true ∧
      (d = true → regOk ops (masksGo ops.toList []) = true ∧ ps = pairsOf ops (masksGo ops.toList [])) := by
  cases c <;> simp only [light] at h <;> (try (repeat' split at h) <;> simp_all <;> done)
  rename_i id ops dr
  refine ⟨id, ops, ?_⟩
  repeat' split at h
  all_goals simp_all

/-! ### The plain rules -/

theorem T.skip (h : Q .normal σ) : T P N n0 σ .skip Q := fun hn c hc CM γ a w ha hs => by
  rcases light_skip hc with rfl | ⟨l, rfl⟩
  · exact wp_skip (Post.here hn ha hs h)
  · exact wp_label (Post.here hn ha hs h)

theorem T.ret (h : Q .ret σ) : T P N n0 σ .ret Q := fun hn c hc CM γ a w ha hs => by
  cases light_ret hc
  exact wp_ret (Post.here hn ha hs h)

theorem T.exit {id : Nat} (h : Q (.exit id) σ) : T P N n0 σ (.exit id) Q := fun hn c hc CM γ a w ha hs => by
  cases light_exit hc
  exact wp_exit (Post.here hn ha hs h)

/-- What follows, when the first part ends as usual. -/
def thenT (P : Program) (N n0 : Nat) (b : LC) (Q : Exit → St → Prop) : Exit → St → Prop
  | .normal, σ => T P N n0 σ b Q
  | e, σ => Q e σ

theorem T.seq {a b : LC} (h : T P N n0 σ a (thenT P N n0 b Q)) : T P N n0 σ (.seq a b) Q := fun hn c hc CM γ ac w ha hs => by
  obtain ⟨x, y, rfl, hx, hy⟩ := light_seq hc
  refine wp_seq (wp_mono (h hn x hx CM γ ac w ha hs) fun e a' w' hp => ?_)
  obtain ⟨σ', γ', h1, h2, h3, h4, h5, h6⟩ := hp
  cases e with
  | normal => exact wp_mono (h1 h2 y hy CM γ' a' w' h3 h4) fun _ _ _ hq => hq.trans h5 h6
  | _ => exact ⟨σ', γ', h1, h2, h3, h4, h5, h6⟩

def condT (v : V) (A B : Bool → Prop) : Prop :=
  match v with
  | .c (.d (.bool b)) => forkK b fun b => if b then A b else B b
  | _ => False

/-- The slot of a condition is known afterwards. -/
def knowT (σ : St) (c : Operand) (b : Bool) : St :=
  match c with
  | .tmp t => { σ with tm := setL σ.tm t (.c (.d (.bool b))) }
  | _ => σ

theorem T.cond {c : Operand} {a b : LC} (h : condT (operV (getV σ.tm) c) (fun t => T P N n0 (knowT σ c t) a Q) (fun t => T P N n0 (knowT σ c t) b Q)) :
    T P N n0 σ (.cond c a b) Q := fun hn cd hc CM γ ac w ha hs => by
  obtain ⟨x, y, rfl, hx, hy⟩ := light_cond hc
  unfold condT at h
  split at h
  · rename_i t ht
    have hv := hs.oper c
    rw [ht] at hv
    have hv := hv.bool_inv
    have hk : getV (knowT σ c t).tm = getV σ.tm ∧ (knowT σ c t).hp = σ.hp ∧ (knowT σ c t).nx = σ.nx := by
      cases c with
      | tmp s => exact ⟨getV_same ht, rfl, rfl⟩
      | _ => exact ⟨rfl, rfl, rfl⟩
    have hcx : ∀ w γ, (knowT σ c t).cx w γ CM = σ.cx w γ CM := fun w γ => by
      unfold St.cx
      rw [hk.2.1, hk.2.2]
    have hs' : SRel ((knowT σ c t).cx w γ CM) (getV (knowT σ c t).tm) ac := by rw [hcx, hk.1]; exact hs
    have hn' : n0 ≤ (knowT σ c t).nx := by rw [hk.2.2]; exact hn
    cases t with
    | true =>
      have := (show T P N n0 (knowT σ c true) a Q from h) hn' x hx CM γ ac w ha hs'
      rw [hcx] at this
      exact wp_cond_true hv this
    | false =>
      have := (show T P N n0 (knowT σ c false) b Q from h) hn' y hy CM γ ac w ha hs'
      rw [hcx] at this
      exact wp_cond_false hv this
  · exact h.elim

def blockT (id : Nat) (Q : Exit → St → Prop) : Exit → St → Prop
  | .exit i, σ => if i = id then Q .normal σ else Q (.exit i) σ
  | e, σ => Q e σ

theorem T.block {id : Nat} {a : LC} (h : T P N n0 σ a (blockT id Q)) : T P N n0 σ (.block id a) Q := fun hn c hc CM γ ac w ha hs => by
  obtain ⟨x, rfl, hx⟩ := light_block hc
  refine wp_block (wp_mono (h hn x hx CM γ ac w ha hs) fun e a' w' hp => ?_)
  obtain ⟨σ', γ', h1, h2⟩ := hp
  cases e with
  | exit i =>
    show (if i = id then _ else _)
    replace h1 : (if i = id then _ else _) := h1
    split at h1
    · rename_i hi
      rw [if_pos hi]
      exact ⟨σ', γ', h1, h2⟩
    · rename_i hi
      rw [if_neg hi]
      exact ⟨σ', γ', h1, h2⟩
  | _ => exact ⟨σ', γ', h1, h2⟩

/-! ### Weaker states -/

/-- Whatever σ stands for, σ' stands for. -/
def Wk (n0 : Nat) (σ σ' : St) : Prop :=
  n0 ≤ σ.nx → n0 ≤ σ'.nx ∧ ∀ (CM : Nat → Prop) (γ : Gam) (a : Act) (w : World), SRel (σ.cx w γ CM) (getV σ.tm) a →
    ∃ γ', SRel (σ'.cx w γ' CM) (getV σ'.tm) a ∧ Fr (σ.cx w γ CM) (σ'.cx w γ' CM) ∧ Ev (fun b => b < n0) (σ.cx w γ CM) (σ'.cx w γ' CM)

theorem Wk.refl : Wk n0 σ σ := fun hn => ⟨hn, fun _ γ _ _ hs => ⟨γ, hs, Fr.refl _, Ev.refl fun _ hb => Nat.lt_of_lt_of_le hb hn⟩⟩

theorem Wk.trans {σ1 σ2 : St} (h : Wk n0 σ σ1) (h2 : Wk n0 σ1 σ2) : Wk n0 σ σ2 := fun hn => by
  obtain ⟨g1, g2⟩ := h hn
  obtain ⟨g3, g4⟩ := h2 g1
  refine ⟨g3, fun CM γ a w hs => ?_⟩
  obtain ⟨γ1, k1, k2, k3⟩ := g2 CM γ a w hs
  obtain ⟨γ2, k4, k5, k6⟩ := g4 CM γ1 a w k1
  exact ⟨γ2, k4, k2.trans k5, k3.trans k6⟩

theorem T.wk {σ' : St} {L : LC} (hw : Wk n0 σ σ') (h : T P N n0 σ' L Q) : T P N n0 σ L Q := fun hn c hc CM γ a w ha hs => by
  obtain ⟨g1, g2⟩ := hw hn
  obtain ⟨γ', k1, k2, k3⟩ := g2 CM γ a w hs
  exact wp_mono (h g1 c hc CM γ' a w ha k1) fun _ _ _ hq => hq.trans k2 k3

/-! ### Loops -/

def roundT {ι : Type} (n0 : Nat) (I : ι → St) (μ : ι → Nat) (i : ι) (Q : Exit → St → Prop) : Exit → St → Prop
  | .normal, σ => ∃ j, Wk n0 σ (I j) ∧ μ j < μ i
  | e, σ => Q e σ

theorem T.loop {ι : Type} {L : LC} (I : ι → St) (μ : ι → Nat) (i0 : ι) (h0 : Wk n0 σ (I i0)) (h : ∀ i, T P N n0 (I i) L (roundT n0 I μ i Q)) : T P N n0 σ (.loop L) Q := by
  refine T.wk h0 ?_
  intro hn c hc CM γ a w ha hs
  obtain ⟨x, rfl, hx⟩ := light_loop hc
  have hinv : ∃ i γ', n0 ≤ (I i).nx ∧ a.tmps.size = N ∧ SRel ((I i).cx w γ' CM) (getV (I i).tm) a ∧ Fr ((I i0).cx w γ CM) ((I i).cx w γ' CM) ∧
      Ev (fun b => b < n0) ((I i0).cx w γ CM) ((I i).cx w γ' CM) ∧ True :=
    ⟨i0, γ, hn, ha, hs, Fr.refl _, Ev.refl fun _ hb => Nat.lt_of_lt_of_le hb hn, trivial⟩
  -- the measure is carried in the invariant: run by induction on it
  intro b k cs
  have key : ∀ m i γ' a' w', μ i = m → n0 ≤ (I i).nx → a'.tmps.size = N → SRel ((I i).cx w' γ' CM) (getV (I i).tm) a' → Fr ((I i0).cx w γ CM) ((I i).cx w' γ' CM) →
      Ev (fun b => b < n0) ((I i0).cx w γ CM) ((I i).cx w' γ' CM) →
      ∃ e a2 w2, Post N n0 ((I i0).cx w γ CM) Q e a2 w2 ∧ Arrives P (lone (b.at a' (.code x :: .inLoop x :: k)) cs w') b k cs e a2 w2 := by
    intro m
    induction m using Nat.strongRecOn with
    | _ m ih =>
      intro i γ' a' w' hm hn' ha' hs' hf' he'
      obtain ⟨e, a1, w1, hp, harr⟩ := h i hn' x hx CM γ' a' w' ha' hs' b (.inLoop x :: k) cs
      obtain ⟨σ1, γ1, h1, h2, h3, h4, h5, h6⟩ := hp
      cases e with
      | normal =>
        obtain ⟨j, hwk, hlt⟩ := h1
        obtain ⟨g1, g2⟩ := hwk h2
        obtain ⟨γ2, k1, k2, k3⟩ := g2 CM γ1 a1 w1 h4
        obtain ⟨e2, a2, w2, hq2, harr2⟩ := ih (μ j) (hm ▸ hlt) j γ2 a1 w1 rfl g1 h3 k1 (hf'.trans (h5.trans k2)) (he'.trans (h6.trans k3))
        exact ⟨e2, a2, w2, hq2, .of_steps (Steps.trans harr (.one step_inLoop)) harr2⟩
      | exit id => exact ⟨_, a1, w1, Post.trans hf' he' ⟨σ1, γ1, h1, h2, h3, h4, h5, h6⟩, .pass (x := .inLoop x) rfl (fun _ _ => .inl (by simp)) harr⟩
      | goto l => exact ⟨_, a1, w1, Post.trans hf' he' ⟨σ1, γ1, h1, h2, h3, h4, h5, h6⟩, .pass (x := .inLoop x) rfl (fun _ _ => .inl (by simp)) harr⟩
      | ret => exact ⟨_, a1, w1, Post.trans hf' he' ⟨σ1, γ1, h1, h2, h3, h4, h5, h6⟩, .pass (x := .inLoop x) rfl (fun _ _ => .inl (by simp)) harr⟩
      | panic ch => exact ⟨_, a1, w1, Post.trans hf' he' ⟨σ1, γ1, h1, h2, h3, h4, h5, h6⟩, .pass (x := .inLoop x) rfl (fun _ _ => .inl (by simp)) harr⟩
      | outgrown => exact ⟨_, a1, w1, Post.trans hf' he' ⟨σ1, γ1, h1, h2, h3, h4, h5, h6⟩, .pass (x := .inLoop x) rfl (fun _ _ => .inl (by simp)) harr⟩
  obtain ⟨e, a', w', hq, harr⟩ := key _ i0 γ a w rfl hn ha hs (Fr.refl _) (Ev.refl fun _ hb => Nat.lt_of_lt_of_le hb hn)
  exact ⟨e, a', w', hq, .of_steps (.one step_loop) harr⟩
end
end Go.Vs

/- The rule of a region, from its condition. -/
namespace Go.Vs

/-- The same blocks, in a world with the same memory, and with more names in use. -/
theorem SRel.wider {x : Cx} {tm : Nat → V} {a : Act} {w' : World} {U' : Nat → Prop} (hs : SRel x tm a) (hl : Like x.w w') (hh : w'.heap = x.w.heap) (hU : ∀ b, x.U b → U' b) :
    SRel ⟨w', x.γ, x.hp, x.CM, U'⟩ tm a ∧ Fr x ⟨w', x.γ, x.hp, x.CM, U'⟩ ∧ Ev x.U x ⟨w', x.γ, x.hp, x.CM, U'⟩ := by
  have hf : Fr x ⟨w', x.γ, x.hp, x.CM, U'⟩ :=
    { os := hl.os
      tape := hl.tape
      output := hl.output
      size := by show _ ≤ w'.heap.size; rw [hh]; exact Nat.le_refl _
      same := fun c _ _ => by show w'.heap[c]? = _; rw [hh]
      muts := fun _ _ h => h
      sz := fun c arr e fr h => ⟨arr, by show w'.heap[c]? = _; rw [hh]; exact h, rfl⟩
      orig := fun c arr e fr h => .inr ⟨arr, by rw [← hh]; exact h⟩
      cm := rfl }
  have he : Ev x.U x ⟨w', x.γ, x.hp, x.CM, U'⟩ := ⟨hU, fun b _ => EvB.same rfl rfl⟩
  exact ⟨⟨⟨fun b blk hb => ⟨hU b (hs.hp b blk hb).1, (hs.hp b blk hb).2.on hf he rfl fun c _ => by show w'.heap[c]? = _; rw [hh]⟩, hs.inj,
    fun b c h => by show c < w'.heap.size ∧ _; rw [hh]; exact hs.lt b c h, fun c h => by show c < w'.heap.size; rw [hh]; exact hs.cm c h⟩, fun t => (hs.tm t).on hf he, hs.defers⟩, hf, he⟩

section
variable {P : Program} {tv : Tv} {ops : Array Oper} {nx : Nat} {tms : Nat → Nat → V} {hps : Nat → HpF} {vs : Nat → V} {fps : Nat → Fp}

theorem region_text (htv : TvOk P tv) (hrun : RunS P tv ops nx tms hps vs fps) {Q : Exit → Act → World → Prop} {x : Cx} {N : Nat}
    (hd : ∀ (i : Nat) (o : Oper) (d : Nat), ops[i]? = some o → o.dst = some d → d < N) (hU : ∀ b, x.U b → b < nx)
    (hK : ∀ a' w' γ', SRel ⟨w', γ', hps ops.size, x.CM, US x.U nx (fun _ => true) ops.size⟩ (tms ops.size) a' → Fr x ⟨w', γ', hps ops.size, x.CM, US x.U nx (fun _ => true) ops.size⟩ →
      Ev x.U x ⟨w', γ', hps ops.size, x.CM, US x.U nx (fun _ => true) ops.size⟩ → a'.tmps.size = N → Q .normal a' w') :
    ∀ (m i : Nat) (a : Act) (y : Cx), i + m = ops.size → a.tmps.size = N → y.hp = hps i → y.CM = x.CM → y.U = US x.U nx (fun _ => true) i →
      SRel y (tms i) a → Fr x y → Ev x.U x y → wpOps P ops Q (List.range' i m) a y.w
  | 0, i, a, y, him, hsz, h1, h2, h3, hs, hf, he => by
    have : i = ops.size := by omega
    subst this
    obtain ⟨yw, yγ, yhp, yCM, yU⟩ := y
    dsimp only at h1 h2 h3
    subst h1 h2 h3
    exact hK a yw yγ hs hf he hsz
  | m + 1, i, a, y, him, hsz, h1, h2, h3, hs, hf, he => by
    have hi : i < ops.size := by omega
    have ho : ops[i]? = some ops[i] := Array.getElem?_eq_getElem hi
    obtain ⟨hst, hnext⟩ := hrun.step i _ ho
    rw [List.range'_succ, wpOps_cons]
    have hfr : ∀ j, nx + 4 * i ≤ j → j < nx + 4 * i + 4 → ¬ y.U j := fun j hj1 hj2 hu => by
      rw [h3] at hu
      rcases hu with hu | ⟨k, hk, _, hk1, hk2⟩
      · have := hU j hu; omega
      · omega
    have eU : (y.more (nx + 4 * i)).U = US x.U nx (fun _ => true) (i + 1) := by
      funext b
      apply propext
      show (y.U b ∨ _) ↔ _
      rw [h3]
      unfold US
      constructor
      · rintro ((h | ⟨k, hk, _, h⟩) | h)
        · exact .inl h
        · exact .inr ⟨k, by omega, rfl, h⟩
        · exact .inr ⟨i, by omega, rfl, h.1, by omega⟩
      · rintro (h | ⟨k, hk, _, h⟩)
        · exact .inl (.inl h)
        · rcases Nat.lt_or_ge k i with hki | hki
          · exact .inl (.inr ⟨k, hki, rfl, h⟩)
          · have : k = i := by omega
            subst this
            exact .inr ⟨h.1, by omega⟩
    rw [← h1] at hst
    refine step_sim htv ho hs (fun d hd' => by rw [hsz]; exact hd i _ d ho hd') hfr hst fun a' w' γ' gs gf ge gsz => ?_
    exact region_text htv hrun hd hU hK m (i + 1) a' ⟨w', γ', hps (i + 1), y.CM, (y.more (nx + 4 * i)).U⟩ (by omega) (gsz.trans hsz) rfl h2 eU (by rw [hnext]; exact gs) (hf.trans gf)
      (he.trans (ge.sub he.1))
end

theorem dstsOk_spec (N : Nat) : ∀ (l : List Oper), dstsOk N l = true → ∀ (i : Nat) (o : Oper) (d : Nat), l[i]? = some o → o.dst = some d → d < N
  | [], _, _, _, _, h, _ => by simp at h
  | o :: l, h, i, ok, d, hi, hd => by
    simp only [dstsOk, Bool.and_eq_true] at h
    cases i with
    | zero =>
      simp at hi
      subst hi
      rw [hd] at h
      simpa using h.1
    | succ i => exact dstsOk_spec N l h.2 i ok d (by simpa using hi) hd

def regK (draw : Bool) (pairs : List (Nat × Nat)) (nx : Nat) (Q : Exit → St → Prop) (tm : Tm) (hp : Hp) (fs : List Fp) : Prop :=
  (draw = true → fpsOk pairs fs = true) ∧ Q .normal ⟨tm, hp, nx⟩

theorem T.reg {P : Program} {tv : Tv} {N n0 : Nat} {σ : St} {Q : Exit → St → Prop} {draw : Bool} {ops : List LOp} {pairs : List (Nat × Nat)} (env : Env P tv)
    (h : vcL P tv σ.nx ops 0 σ.tm σ.hp [] (regK draw pairs (σ.nx + 4 * ops.length) Q)) : T P N n0 σ (.reg draw ops pairs) Q := by
  intro hn c hc CM γ a w ha hs
  obtain ⟨id, arr, rfl, hls, hds, hdr⟩ := light_reg hc
  obtain ⟨tms, hps, vs, fps, tm', hp', g1, g2, g3, g4, g5, ⟨g6, g8⟩, g7⟩ := vcL_sound (ops := arr) arr.toList ops 0 σ.tm σ.hp [] hls h
  have hlen : ops.length = arr.size := by simpa using (lightOps_get arr _ _ hls).1
  have hrun : RunS P tv arr σ.nx tms hps vs fps :=
    { none := fun k hk b => by rw [g7 k (by simpa using hk)]; simp
      step := fun i o hi => by
        have := g3 i o (by simpa using hi)
        rw [Nat.zero_add] at this
        exact this }
  have hd : ∀ (i : Nat) (o : Oper) (d : Nat), arr[i]? = some o → o.dst = some d → d < N := fun i o d hi hd => dstsOk_spec N _ hds i o d (by simpa using hi) hd
  -- the end
  have hK : ∀ (x : Cx), x = σ.cx x.w γ CM → Fr (σ.cx w γ CM) x → Ev (fun b => b < n0) (σ.cx w γ CM) x →
      ∀ a' w' γ', SRel ⟨w', γ', hps arr.size, x.CM, US x.U σ.nx (fun _ => true) arr.size⟩ (tms arr.size) a' → Fr x ⟨w', γ', hps arr.size, x.CM, US x.U σ.nx (fun _ => true) arr.size⟩ →
      Ev x.U x ⟨w', γ', hps arr.size, x.CM, US x.U σ.nx (fun _ => true) arr.size⟩ → a'.tmps.size = N → Post N n0 (σ.cx w γ CM) Q .normal a' w' := by
    intro x hx hf0 he0 a' w' γ' k1 k2 k3 k4
    have eU : US x.U σ.nx (fun _ => true) arr.size = fun b => b < σ.nx + 4 * ops.length := by
      funext b
      apply propext
      rw [hx, hlen]
      unfold US St.cx
      constructor
      · rintro (h | ⟨k, hk, _, h⟩)
        · have h : b < σ.nx := h
          omega
        · omega
      · intro h
        rcases Nat.lt_or_ge b σ.nx with h1 | h1
        · exact .inl h1
        · refine .inr ⟨(b - σ.nx) / 4, ?_, rfl, ?_, ?_⟩ <;> omega
    have e4 : tms arr.size = getV tm' := by rw [← g4]; simp
    have e5 : hps arr.size = look hp' := by rw [← g5]; simp
    have eC : x.CM = CM := by rw [hx]; rfl
    rw [eU, e4, e5, eC] at k1
    rw [eU, e5, eC] at k2 k3
    refine ⟨⟨tm', hp', σ.nx + 4 * ops.length⟩, γ', g8, ?_, k4, k1, hf0.trans k2, he0.trans (k3.sub fun b hb => ?_)⟩
    · show n0 ≤ σ.nx + _
      omega
    · rw [hx]
      exact Nat.lt_of_lt_of_le hb hn
  have e0 : tms 0 = getV σ.tm := g1
  have e2 : hps 0 = look σ.hp := g2
  cases draw with
  | false =>
    refine wp_region ?_
    rw [List.range_eq_range']
    have := region_text env.tv hrun (x := σ.cx w γ CM) (N := N) hd (fun b hb => hb) (hK _ rfl (Fr.refl _) (Ev.refl fun _ hb => Nat.lt_of_lt_of_le hb hn)) arr.size 0 a (σ.cx w γ CM) (by omega) ha
      (by rw [e2]; rfl) rfl (by
        funext b
        apply propext
        unfold US
        constructor
        · exact .inl
        · rintro (h | ⟨k, hk, _⟩)
          · exact h
          · omega) (by rw [e0]; exact hs) (Fr.refl _) (Ev.refl fun _ h => h)
    exact this
  | true =>
    obtain ⟨hreg, rfl⟩ := hdr rfl
    have hord := ordered_of hrun (fs := (List.range arr.size).map fps) (fun i hi => by simp [List.getD_eq_getElem?_getD, hi]) hreg (by
      have := g6 rfl
      simpa using this)
    refine wp_region_any env.mix ?_
    obtain ⟨s1, s2, s3⟩ := hs.wider (w' := { w with drawn := w.drawn + 1 }) (U' := fun b => b < σ.nx) ⟨rfl, rfl, rfl⟩ rfl fun _ h => h
    have hnone : ∀ k, (Array.replicate arr.size false).getD k false = false := fun k => by
      rw [Array.getD_eq_getD_getElem?]
      by_cases h : k < arr.size
      · simp [h]
      · simp [h]
    have lw0 : ∀ {α : Type} (f : Nat → Option α) (v : α) (n : Nat), lw f (fun k => (Array.replicate arr.size false).getD k false) v n = v := by
      intro α f v n
      induction n with
      | zero => rfl
      | succ n ih => rw [lw_skip _ _ _ _ (.inl (hnone n)), ih]
    have := region_any env.tv hrun hord (x := σ.cx { w with drawn := w.drawn + 1 } γ CM) (N := N) hd (fun b hb => hb) (hK _ rfl s2 (s3.sub fun b hb => Nat.lt_of_lt_of_le hb hn)) arr.size
      (Array.replicate arr.size false) a (σ.cx { w with drawn := w.drawn + 1 } γ CM) (by simp) (by
        rw [Array.toList_replicate, List.countP_replicate]
        simp) ha (fun k o e hk => by dsimp only at hk; rw [hnone] at hk; simp at hk) (by
        funext b
        rw [lw0, e2]
        rfl) rfl (by
        funext b
        apply propext
        unfold US
        constructor
        · exact .inl
        · rintro (h | ⟨k, hk, h1, _⟩)
          · exact h
          · dsimp only at h1
            rw [hnone] at h1
            simp at h1) (by
        have e : (fun t => lw (fT arr vs t) (fun k => (Array.replicate arr.size false).getD k false) (tms 0 t) arr.size) = getV σ.tm := by
          funext t
          rw [lw0, e0]
        rw [e]
        exact s1) (Fr.refl _) (Ev.refl fun _ h => h)
    exact this

end Go.Vs

/- The end of a function: its results; a contract from the logic. -/
namespace Go.Vs

theorem load_sim {P : Program} {x : Cx} {t : Nat} {ty : Ty} {v' : Value} {y u0 : V} {k : List C → Prog} {H' : HpF} {fp : Fp} (ok : TyOk P t ty) (hh : HRel x) (hv : VRel x v' y)
    (hx : (rd y ty.size k).exec P x.hp u0 H' fp) : ∃ cs fp' p, (k cs).exec P x.hp u0 H' fp' ∧ v' = .pointer (some p) ∧
      ∀ u, ofCells ty.agg cs = some u → ∃ u', (loadVar t p).run P x.w = .ok u' x.w ∧ VRel x u' u := by
  obtain ⟨i, hi, hisz, hz⟩ := ok.info
  obtain ⟨d, hu, hag, _⟩ := ok.und
  obtain ⟨cs, fp', c, off, vals, hx, hpt, hl, hat⟩ := rd_sim hh hv hx
  refine ⟨cs, fp', _, hx, hpt, fun u hx2 => ?_⟩
  unfold ofCells at hx2
  split at hx2
  · rename_i hag'
    cases hx2
    refine ⟨.agg vals.toArray, ?_, .agg _ _ (by simp [hat.len]) fun j z hj => ?_⟩
    · have h := run_loadCells_list (P := P) x.w ⟨c, off, none⟩ vals fun j u hj => by rw [add_none]; exact hat.cell j u hj
      simp [loadVar, run_isAgg hu, hag, hag', run_size hi, hisz, ← hl, ← hat.len, h]
    · simpa [Array.getD_eq_getD_getElem?, List.getD_eq_getElem?_getD] using hat.rel j z hj
  · rename_i hag'
    split at hx2
    · rename_i c1
      cases hx2
      have hv0 := hat.rel 0 c1 rfl
      obtain ⟨u0, hu0⟩ : ∃ u0, vals = [u0] := by
        have := hat.len
        simp at this
        match vals, this with
        | [u0], _ => exact ⟨u0, rfl⟩
      subst hu0
      refine ⟨u0, ?_, .c _ _ (by simpa using hv0)⟩
      have hc0 := hat.cell 0 u0 rfl
      rw [Nat.add_zero] at hc0
      have : isAggD d = false := by rw [hag]; simpa using hag'
      simp [loadVar, run_isAgg hu, this, hc0]
    · simp at hx2

/-! ### Results -/

def resL (tv : Tv) (tm : Nat → V) : List ResultVar → (List V → Prog) → Prog
  | [], k => k []
  | .tmp t :: rs, k => resL tv tm rs fun vs => k (tm t :: vs)
  | .cell t ty :: rs, k => withTy tv ty fun d => rd (tm t) d.size fun cs => match ofCells d.agg cs with
    | some v => resL tv tm rs fun vs => k (v :: vs)
    | none => .fail

/-- A cell of a result: data, or a slice that is handed over. -/
def keepC (own : List Nat) (c : C) (k : C → Prog) : Prog :=
  match c with
  | .d x => k (.d x)
  | .ref b g off n => if own.contains b then .get b fun
      | .sl _ es false => .req (es.length = g) (k (.ref b g off n))
      | _ => .fail
    else settle1 (.ref b g off n) fun x => k (.d x)
  | _ => .fail

def keepL (own : List Nat) : List C → (List C → Prog) → Prog
  | [], k => k []
  | c :: cs, k => keepC own c fun x => keepL own cs fun xs => k (x :: xs)

def keepV (own : List Nat) (v : V) (k : V → Prog) : Prog :=
  match v with
  | .c x => keepC own x fun y => k (.c y)
  | .agg cs => keepL own cs fun ds => k (.agg ds)
  | _ => .fail

def keepVs (own : List Nat) : List V → (List V → Prog) → Prog
  | [], k => k []
  | v :: vs, k => keepV own v fun x => keepVs own vs fun xs => k (x :: xs)

def oneV : List V → V
  | [v] => v
  | vs => .tup vs

def resP (tv : Tv) (own : List Nat) (tm : Nat → V) (rs : List ResultVar) : Prog := resL tv tm rs fun vs => keepVs own vs fun us => .ret (oneV us)

/-- Names of blocks, by their places in a list. -/
def nameAt (own : List Nat) (b : Nat) : Nat := own.idxOf b

def C.at (own : List Nat) : C → C
  | .ref b g off n => .ref (nameAt own b) g off n
  | c => c

def V.at (own : List Nat) : V → V
  | .c x => .c (x.at own)
  | .agg cs => .agg (cs.map (C.at own))
  | .tup vs => .tup (V.atL own vs)
  | .junk => .junk
where
  V.atL (own : List Nat) : List V → List V
  | [] => []
  | .c x :: vs => .c (x.at own) :: V.atL own vs
  | .agg cs :: vs => .agg (cs.map (C.at own)) :: V.atL own vs
  | v :: vs => v :: V.atL own vs

/-- The blocks that are handed over. -/
def ownBlks (H : Hp) : List Nat → Option (List Blk)
  | [] => some []
  | b :: bs => match look H b, ownBlks H bs with
    | some (.sl esz es false), some xs => some (.sl esz es false :: xs)
    | _, _ => none

structure GoodC (hp : HpF) (own : List Nat) (c : C) : Prop where
  go : (∃ e, c = .d e) ∨ ∃ b g off n esz es, c = .ref b g off n ∧ b ∈ own ∧ hp b = some (.sl esz es false) ∧ es.length = g

/-- One value of a result: its cells. -/
inductive Good1 (hp : HpF) (own : List Nat) : V → Prop
  | c (y : C) : GoodC hp own y → Good1 hp own (.c y)
  | agg (cs : List C) : (∀ c ∈ cs, GoodC hp own c) → Good1 hp own (.agg cs)

section
variable {P : Program} {x : Cx} {u0 : V} {H' : HpF} {fp : Fp} {own : List Nat}

theorem keepC_sim {v' : Value} {c : C} {k : C → Prog} (hh : HRel x) (hv : CRel x v' c) (hx : (keepC own c k).exec P x.hp u0 H' fp) :
    ∃ d hp1 fp', (k d).exec P hp1 u0 H' fp' ∧ HRel { x with hp := hp1 } ∧ Fr x { x with hp := hp1 } ∧ Ev x.U x { x with hp := hp1 } ∧
      CRel { x with hp := hp1 } v' d ∧ GoodC hp1 own d ∧ (∀ b, b ∈ own → hp1 b = x.hp b) := by
  unfold keepC at hx
  split at hx
  · exact ⟨_, x.hp, fp, hx, hh, Fr.refl x, Ev.refl fun _ h => h, hv, ⟨.inl ⟨_, rfl⟩⟩, fun _ _ => rfl⟩
  · rename_i b g off n
    split at hx
    · rename_i hb
      obtain ⟨blk, fp', hblk, hx, rfl⟩ := hx
      dsimp only at hx
      split at hx
      · rename_i esz es
        obtain ⟨hl, hx⟩ := hx
        exact ⟨_, x.hp, fp', hx, hh, Fr.refl x, Ev.refl fun _ h => h, hv, ⟨.inr ⟨b, g, off, n, esz, es, rfl, by simpa using hb, hblk, hl⟩⟩, fun _ _ => rfl⟩
      · exact hx.elim
    · rename_i hb
      obtain ⟨blk, fp', hblk, hx2, rfl⟩ := (show (Prog.get b _).exec P x.hp u0 H' fp from hx)
      clear hx
      dsimp only at hx2
      split at hx2
      · rename_i esz es fz
        obtain ⟨hreq, fp2, hx, rfl⟩ := hx2
        have hx' : (settle1 (.ref b g off n) fun e => Prog.ret (.c (.d e))).exec P x.hp (.c (.d (.sl esz ((es.drop off).take n)))) (upd x.hp b (.sl esz es true)) ⟨[b], [b]⟩ :=
          ⟨_, ⟨[], [b]⟩, hblk, ⟨hreq, ⟨[], []⟩, ⟨rfl, rfl, rfl⟩, rfl⟩, rfl⟩
        obtain ⟨d, hp1, fp3, g1, g2, g3, g4, g5⟩ := settle1_sim hh hv hx'
        obtain ⟨e1, e2, _⟩ := g1
        have e1 : D.sl esz ((es.drop off).take n) = d := by simpa using e1
        subst e1 e2
        refine ⟨_, _, _, hx, g2, g3, g4, .d _ _ g5, ⟨.inl ⟨_, rfl⟩⟩, fun b' hb' => ?_⟩
        have : b' ≠ b := fun e => hb (by simpa using e ▸ hb')
        simp [upd, this]
      · exact hx2.elim
  · exact hx.elim

theorem GoodC.on {hp hp1 : HpF} {c : C} (h : GoodC hp own c) (hk : ∀ b, b ∈ own → hp1 b = hp b) : GoodC hp1 own c := by
  rcases h.go with h | ⟨b, g, off, n, esz, es, h1, h2, h3, h4⟩
  · exact ⟨.inl h⟩
  · exact ⟨.inr ⟨b, g, off, n, esz, es, h1, h2, (hk b h2).trans h3, h4⟩⟩

theorem keepL_sim : ∀ (cs : List C) {x : Cx} {vals : List Value} {k : List C → Prog} {fp : Fp}, HRel x → vals.length = cs.length →
    (∀ j y, cs[j]? = some y → CRel x (vals.getD j undef) y) → (keepL own cs k).exec P x.hp u0 H' fp →
    ∃ ds hp1 fp', (k ds).exec P hp1 u0 H' fp' ∧ HRel { x with hp := hp1 } ∧ Fr x { x with hp := hp1 } ∧ Ev x.U x { x with hp := hp1 } ∧ ds.length = cs.length ∧
      (∀ (j : Nat) (d : C), ds[j]? = some d → CRel { x with hp := hp1 } (vals.getD j undef) d) ∧ (∀ d ∈ ds, GoodC hp1 own d) ∧ (∀ b, b ∈ own → hp1 b = x.hp b)
  | [], x, vals, k, fp, hh, hl, hr, hx => ⟨[], x.hp, fp, hx, hh, Fr.refl x, Ev.refl fun _ h => h, rfl, fun j d h => by simp at h, fun d h => by simp at h, fun _ _ => rfl⟩
  | c :: cs, x, vals, k, fp, hh, hl, hr, hx => by
    obtain ⟨v0, vals, rfl⟩ : ∃ a l, vals = a :: l := by
      cases vals with
      | nil => simp at hl
      | cons a l => exact ⟨a, l, rfl⟩
    obtain ⟨d, hp1, fp1, hx1, hh1, hf1, he1, hd, hg1, hk1⟩ := keepC_sim hh (hr 0 c rfl) hx
    obtain ⟨ds, hp2, fp2, hx2, hh2, hf2, he2, hl2, hds, hg2, hk2⟩ := keepL_sim cs (x := { x with hp := hp1 }) hh1 (by simpa using hl)
      (fun j y hj => (hr (j + 1) y (by simpa using hj)).on hf1 he1) hx1
    refine ⟨d :: ds, hp2, fp2, hx2, hh2, hf1.trans hf2, he1.trans he2, by simp [hl2], fun j e hj => ?_, fun e he => ?_, fun b hb => (hk2 b hb).trans (hk1 b hb)⟩
    · cases j with
      | zero =>
        simp at hj
        subst hj
        exact CRel.on (x := { x with hp := hp1 }) (x' := { x with hp := hp2 }) hf2 he2 hd
      | succ j => exact hds j e (by simpa using hj)
    · rcases List.mem_cons.1 he with rfl | he
      · exact hg1.on hk2
      · exact hg2 e he

theorem keepV_sim {v' : Value} {y : V} {k : V → Prog} (hh : HRel x) (hv : VRel x v' y) (hx : (keepV own y k).exec P x.hp u0 H' fp) :
    ∃ d hp1 fp', (k d).exec P hp1 u0 H' fp' ∧ HRel { x with hp := hp1 } ∧ Fr x { x with hp := hp1 } ∧ Ev x.U x { x with hp := hp1 } ∧
      VRel { x with hp := hp1 } v' d ∧ Good1 hp1 own d ∧ (∀ b, b ∈ own → hp1 b = x.hp b) := by
  unfold keepV at hx
  split at hx
  · obtain ⟨d, hp1, fp1, h1, h2, h3, h4, h5, h6, h7⟩ := keepC_sim hh hv.c_inv hx
    exact ⟨_, hp1, fp1, h1, h2, h3, h4, .c _ _ h5, .c _ h6, h7⟩
  · rename_i cs
    cases hv with
    | agg arr _ hsz hr =>
      obtain ⟨ds, hp1, fp1, h1, h2, h3, h4, h5, h6, h7, h8⟩ := keepL_sim cs (vals := arr.toList) hh (by simpa using hsz)
        (fun j y hj => by simpa [List.getD_eq_getElem?_getD, Array.getD_eq_getD_getElem?] using hr j y hj) hx
      exact ⟨_, hp1, fp1, h1, h2, h3, h4, .agg _ _ (by omega) (fun j y hj => by
        simpa [List.getD_eq_getElem?_getD, Array.getD_eq_getD_getElem?] using h6 j y hj), .agg _ h7, h8⟩
  · exact hx.elim

theorem Good1.on {hp hp1 : HpF} {v : V} (h : Good1 hp own v) (hk : ∀ b, b ∈ own → hp1 b = hp b) : Good1 hp1 own v := by
  cases h with
  | c y h => exact .c _ (h.on hk)
  | agg cs h => exact .agg _ fun c hc => (h c hc).on hk

theorem keepVs_sim : ∀ {ys : List V} {vs : List Value} {x : Cx} {k : List V → Prog} {fp : Fp}, HRel x → VRels x vs ys → (keepVs own ys k).exec P x.hp u0 H' fp →
    ∃ ds hp1 fp', (k ds).exec P hp1 u0 H' fp' ∧ HRel { x with hp := hp1 } ∧ Fr x { x with hp := hp1 } ∧ Ev x.U x { x with hp := hp1 } ∧
      VRels { x with hp := hp1 } vs ds ∧ (∀ d ∈ ds, Good1 hp1 own d) ∧ (∀ b, b ∈ own → hp1 b = x.hp b)
  | _, _, x, k, fp, hh, .nil, hx => ⟨[], x.hp, fp, hx, hh, Fr.refl x, Ev.refl fun _ h => h, .nil, fun d h => by simp at h, fun _ _ => rfl⟩
  | _, _, x, k, fp, hh, .cons (v := v) (y := y) (vs := vs) (ys := ys) hv hvs, hx => by
    obtain ⟨d, hp1, fp1, h1, h2, h3, h4, h5, h6, h7⟩ := keepV_sim hh hv hx
    have on1 : ∀ {vs : List Value} {ys : List V}, VRels x vs ys → VRels { x with hp := hp1 } vs ys := by
      intro vs ys h
      induction h with
      | nil => exact .nil
      | cons h _ ih => exact .cons (h.on h3 h4) ih
    obtain ⟨ds, hp2, fp2, g1, g2, g3, g4, g5, g6, g7⟩ := keepVs_sim (x := { x with hp := hp1 }) h2 (on1 hvs) h1
    refine ⟨d :: ds, hp2, fp2, g1, g2, h3.trans g3, h4.trans g4, .cons (VRel.on (x := { x with hp := hp1 }) (x' := { x with hp := hp2 }) g3 g4 h5) g5, fun e he => ?_, fun b hb => (g7 b hb).trans (h7 b hb)⟩
    rcases List.mem_cons.1 he with rfl | he
    · exact h6.on g7
    · exact g6 e he

def resOne (tmps : Array Value) : ResultVar → Sem Value
  | .tmp t => pure (tmps.getD t undef)
  | .cell b t => do loadVar t (← asAddr (tmps.getD b undef))

/-- What a function's results are read to. -/
theorem resL_sim {tv : Tv} {tm : Nat → V} {a : Act} (htv : TvOk P tv) (hs : SRel x tm a) : ∀ (rs : List ResultVar) {k : List V → Prog} {fp : Fp}, (resL tv tm rs k).exec P x.hp u0 H' fp →
    ∃ ys vs fp', (k ys).exec P x.hp u0 H' fp' ∧ VRels x vs ys ∧ (rs.mapM (resOne a.tmps)).run P x.w = .ok vs x.w
  | [], k, fp, hx => ⟨[], [], fp, hx, .nil, rfl⟩
  | .tmp t :: rs, k, fp, hx => by
    obtain ⟨ys, vs, fp', h1, h2, h3⟩ := resL_sim htv hs rs hx
    refine ⟨tm t :: ys, a.tmps.getD t undef :: vs, fp', h1, .cons (hs.tm t) h2, ?_⟩
    have h4 : (resOne a.tmps (.tmp t)).run P x.w = .ok (a.tmps.getD t undef) x.w := rfl
    rw [List.mapM_cons, Sem.run_bind, h4, Result.andThen_ok, Sem.run_bind, h3, Result.andThen_ok]
    rfl
  | .cell b t :: rs, k, fp, hx => by
    simp only [resL, withTy] at hx
    split at hx
    · rename_i ty hty
      obtain ⟨cs, fp1, p, hx, hp, hl⟩ := load_sim (htv t ty hty) hs.toHRel (hs.tm b) hx
      split at hx
      · rename_i v hv
        obtain ⟨u', hu, hrel⟩ := hl v hv
        obtain ⟨ys, vs, fp', h1, h2, h3⟩ := resL_sim htv hs rs hx
        refine ⟨v :: ys, u' :: vs, fp', h1, .cons hrel h2, ?_⟩
        have h1 : (resOne a.tmps (.cell b t)).run P x.w = .ok u' x.w := by
          rw [resOne, Sem.run_bind, hp]
          simp only [asAddr, Sem.run_pure, Result.andThen_ok]
          exact hu
        rw [List.mapM_cons, Sem.run_bind, h1, Result.andThen_ok, Sem.run_bind, h3, Result.andThen_ok]
        rfl
      · exact hx.elim
    · exact hx.elim

end
end Go.Vs

/- A nil slice stands for a slice without elements: weaker results. -/
namespace Go.Vs

inductive DLe : D → D → Prop
  | refl (d : D) : DLe d d
  | nil (esz : Nat) : DLe .nilSl (.sl esz [])
  | sl (esz : Nat) (as bs : List (List D)) (hl : as.length = bs.length) (h1 : ∀ (i : Nat) (a b : List D), as[i]? = some a → bs[i]? = some b → a.length = b.length)
      (h2 : ∀ (i : Nat) (a b : List D) (j : Nat) (x y : D), as[i]? = some a → bs[i]? = some b → a[j]? = some x → b[j]? = some y → DLe x y) : DLe (.sl esz as) (.sl esz bs)

/-- Elements up to nil slices. -/
def RowLe : List D → List D → Prop
  | [], [] => True
  | a :: as, b :: bs => DLe a b ∧ RowLe as bs
  | _, _ => False
def ElsLe : List (List D) → List (List D) → Prop
  | [], [] => True
  | a :: as, b :: bs => RowLe a b ∧ ElsLe as bs
  | _, _ => False

theorem RowLe.get : ∀ {as bs : List D}, RowLe as bs → as.length = bs.length ∧ ∀ (j : Nat) (a b : D), as[j]? = some a → bs[j]? = some b → DLe a b
  | [], [], _ => ⟨rfl, fun j a b h => by simp at h⟩
  | a :: as, b :: bs, ⟨h1, h2⟩ => by
    obtain ⟨g1, g2⟩ := RowLe.get h2
    refine ⟨by simp [g1], fun j x y hx hy => ?_⟩
    cases j with
    | zero => simp at hx hy; subst hx hy; exact h1
    | succ j => exact g2 j x y (by simpa using hx) (by simpa using hy)

theorem ElsLe.get : ∀ {as bs : List (List D)}, ElsLe as bs → as.length = bs.length ∧ ∀ (i : Nat) (a b : List D), as[i]? = some a → bs[i]? = some b → RowLe a b
  | [], [], _ => ⟨rfl, fun j a b h => by simp at h⟩
  | a :: as, b :: bs, ⟨h1, h2⟩ => by
    obtain ⟨g1, g2⟩ := ElsLe.get h2
    refine ⟨by simp [g1], fun j x y hx hy => ?_⟩
    cases j with
    | zero => simp at hx hy; subst hx hy; exact h1
    | succ j => exact g2 j x y (by simpa using hx) (by simpa using hy)

theorem DLe.els {esz : Nat} {as bs : List (List D)} (h : ElsLe as bs) : DLe (.sl esz as) (.sl esz bs) :=
  .sl esz as bs h.get.1 (fun i a b ha hb => (h.get.2 i a b ha hb).get.1) (fun i a b j x y ha hb hx hy => (h.get.2 i a b ha hb).get.2 j x y hx hy)

theorem RowLe.self : ∀ (as : List D), RowLe as as
  | [] => trivial
  | _ :: as => ⟨.refl _, RowLe.self as⟩
theorem ElsLe.self : ∀ (as : List (List D)), ElsLe as as
  | [] => trivial
  | _ :: as => ⟨RowLe.self _, ElsLe.self as⟩
theorem ElsLe.app : ∀ {as bs : List (List D)} {a b : List (List D)}, ElsLe as bs → ElsLe a b → ElsLe (as ++ a) (bs ++ b)
  | [], [], _, _, _, h => h
  | _ :: _, _ :: _, _, _, ⟨h1, h2⟩, h => ⟨h1, ElsLe.app h2 h⟩

inductive CLe : C → C → Prop
  | refl (c : C) : CLe c c
  | d {a b : D} : DLe a b → CLe (.d a) (.d b)

inductive CsLe : List C → List C → Prop
  | nil : CsLe [] []
  | cons {a b : C} {as bs : List C} : CLe a b → CsLe as bs → CsLe (a :: as) (b :: bs)

mutual
inductive VLe : V → V → Prop
  | refl (v : V) : VLe v v
  | c {a b : C} : CLe a b → VLe (.c a) (.c b)
  | agg {as bs : List C} : CsLe as bs → VLe (.agg as) (.agg bs)
  | tup {as bs : List V} : VsLe as bs → VLe (.tup as) (.tup bs)
inductive VsLe : List V → List V → Prop
  | nil : VsLe [] []
  | cons {a b : V} {as bs : List V} : VLe a b → VsLe as bs → VsLe (a :: as) (b :: bs)
end

theorem DLe.on {w : World} {ok : Nat → Prop} {a b : D} (h : DLe a b) : ∀ {v : Value}, DRel w ok v a → DRel w ok v b := by
  induction h with
  | refl => exact fun hr => hr
  | nil esz => intro v hr; cases hr; exact .slNil esz
  | sl esz as bs hl h1 h2 ih =>
    intro v hr
    cases hr with
    | slNil =>
      have : bs = [] := List.eq_nil_of_length_eq_zero hl.symm
      subst this
      exact .slNil esz
    | slNone a cap =>
      have : bs = [] := List.eq_nil_of_length_eq_zero hl.symm
      subst this
      exact .slNone a cap esz
    | sl c off cap _ _ arr e fr hcap hok hw hsz hlen hr =>
      have get : ∀ i b, bs[i]? = some b → ∃ a, as[i]? = some a := fun i b hb => by
        have := (List.getElem?_eq_some_iff.1 hb).1
        exact ⟨as[i], List.getElem?_eq_getElem (by omega)⟩
      rw [hl]
      refine .sl c off cap esz bs arr e fr (by omega) hok hw (by rw [← hl]; exact hsz) (fun b hb => ?_) fun i b j y hb hy => ?_
      · obtain ⟨i, hi⟩ := List.getElem?_of_mem hb
        obtain ⟨a, ha⟩ := get i b hi
        rw [← h1 i a b ha hi]
        exact hlen a (List.mem_of_getElem? ha)
      · obtain ⟨a, ha⟩ := get i b hb
        have hll := h1 i a b ha hb
        have hj := (List.getElem?_eq_some_iff.1 hy).1
        have hx : a[j]? = some a[j] := List.getElem?_eq_getElem (by omega)
        exact ih i a b j _ y ha hb hx hy (hr i a j _ ha hx)

theorem CLe.on {x : Cx} {v : Value} {a b : C} (h : CLe a b) (hr : CRel x v a) : CRel x v b := by
  cases h with
  | refl => exact hr
  | d h => exact .d _ _ (h.on hr.d_inv)

theorem CsLe.get {as bs : List C} (h : CsLe as bs) : as.length = bs.length ∧ ∀ (j : Nat) (b : C), bs[j]? = some b → ∃ a, as[j]? = some a ∧ CLe a b := by
  induction h with
  | nil => exact ⟨rfl, fun j b h => by simp at h⟩
  | cons h _ ih =>
    refine ⟨by simp [ih.1], fun j b hj => ?_⟩
    cases j with
    | zero => simp at hj; subst hj; exact ⟨_, rfl, h⟩
    | succ j => simpa using ih.2 j b (by simpa using hj)

mutual
theorem VLe.on {x : Cx} {v : Value} {a b : V} (h : VLe a b) (hr : VRel x v a) : VRel x v b := by
  match h, hr with
  | .refl _, hr => exact hr
  | .c h, hr => exact .c _ _ (h.on hr.c_inv)
  | .agg h, .agg arr _ hsz hr =>
    obtain ⟨h1, h2⟩ := h.get
    exact .agg arr _ (hsz.trans h1) fun j b hj => by
      obtain ⟨a, ha, hab⟩ := h2 j b hj
      exact hab.on (hr j a ha)
  | .tup h, .tup arr _ hsz hr =>
    obtain ⟨h1, h2⟩ := VsLe.on (x := x) (arr := arr) (n := 0) h (fun j y hj => by simpa using hr j y hj)
    exact .tup arr _ (hsz.trans h1) fun j b hj => by simpa using h2 j b hj
theorem VsLe.on {x : Cx} {arr : Array Value} {n : Nat} {as bs : List V} (h : VsLe as bs) (hr : ∀ (j : Nat) (y : V), as[j]? = some y → VRel x (arr.getD (n + j) undef) y) :
    as.length = bs.length ∧ ∀ (j : Nat) (b : V), bs[j]? = some b → VRel x (arr.getD (n + j) undef) b := by
  match h with
  | .nil => exact ⟨rfl, fun j b h => by simp at h⟩
  | .cons (a := a) (b := b) (as := as) (bs := bs) h hs =>
    have h0 := VLe.on h (hr 0 a rfl)
    obtain ⟨h1, h2⟩ := VsLe.on (x := x) (arr := arr) (n := n + 1) hs (fun j y hj => by
      have := hr (j + 1) y (by simpa using hj)
      rw [show n + 1 + j = n + (j + 1) by omega]
      exact this)
    refine ⟨by simp [h1], fun j b' hj => ?_⟩
    cases j with
    | zero => simp at hj; subst hj; exact h0
    | succ j =>
      have := h2 j b' (by simpa using hj)
      rw [show n + (j + 1) = n + 1 + j by omega]
      exact this
end

theorem Gives.le {P : Program} {f : Nat} {ps : List PV} {res res' : V} {blks : List Blk} (h : Gives P f ps res blks) (hle : VLe res res') : Gives P f ps res' blks := by
  obtain ⟨fn, hf, hn, hb, h⟩ := h
  refine ⟨fn, hf, hn, hb, fun CM w vs hCM hps => (h CM w vs hCM hps).mono ?_⟩
  rintro en w' ⟨v, γ, rfl, hp⟩
  exact ⟨v, γ, rfl, { hp with v := hle.on hp.v }⟩

end Go.Vs

/- A contract from the logic. -/
namespace Go.Vs

def argTm (i : Nat) : List PV → Tm
  | [] => []
  | p :: ps => (i, p.toV) :: argTm (i + 1) ps

/-- The end of a function: what its results are read to. -/
def retT (P : Program) (tv : Tv) (own : List Nat) (rs : List ResultVar) (res : V) (blks : List Blk) : Exit → St → Prop
  | .normal, σ | .ret, σ => (resP tv own (getV σ.tm) rs).vc P σ.hp fun v hp _ => VLe (V.at own v) res ∧ ownBlks hp own = some blks
  | _, _ => False

theorem PRel.toV {x : Cx} {v : Value} {p : PV} (h : PRel x.w x.ok v p) : VRel x v p.toV := by
  cases p with
  | c d => exact .c _ _ (.d _ _ h)
  | agg cs =>
    obtain ⟨arr, rfl, h1, h2⟩ := h
    refine .agg arr _ (by simpa using h1) fun j y hj => ?_
    obtain ⟨d, hd, rfl⟩ := getD_map_d cs j y hj
    exact .d _ _ (h2 j d hd)

theorem argTm_rel {x : Cx} : ∀ {vs : List Value} {ps : List PV}, PRels x.w x.ok vs ps → ∀ (i t : Nat) (more : List Value), i ≤ t → VRel x ((vs ++ more).getD (t - i) undef) (getV (argTm i ps) t)
  | _, _, .nil, i, t, more, _ => .junk _
  | _, _, .cons (v := v) (p := p) (vs := vs) (ps := ps) hp hps, i, t, more, hit => by
    by_cases h : t = i
    · subst h
      have e : getV (argTm t (p :: ps)) t = p.toV := by simp [argTm, getV, look]
      rw [e]
      simpa using hp.toV
    · have e : getV (argTm i (p :: ps)) t = getV (argTm (i + 1) ps) t := by
        have : ¬ i = t := fun e => h e.symm
        simp [argTm, getV, look, this]
      have := argTm_rel hps (i + 1) t more (by omega)
      rw [e]
      rw [show t - i = (t - (i + 1)) + 1 by omega]
      simpa using this

theorem argTm_low : ∀ (ps : List PV) (i t : Nat), t < i → getV (argTm i ps) t = .junk
  | [], i, t, _ => rfl
  | p :: ps, i, t, h => by
    have : ¬ i = t := by omega
    have e : getV (argTm i (p :: ps)) t = getV (argTm (i + 1) ps) t := by simp [argTm, getV, look, this]
    rw [e]
    exact argTm_low ps (i + 1) t (by omega)

theorem ownBlks_get (H : Hp) : ∀ (own : List Nat) (blks : List Blk), ownBlks H own = some blks →
    blks.length = own.length ∧ ∀ (i b : Nat), own[i]? = some b → ∃ esz es, look H b = some (.sl esz es false) ∧ blks[i]? = some (.sl esz es false)
  | [], blks, h => by
    simp [ownBlks] at h
    subst h
    exact ⟨rfl, fun i b h => by simp at h⟩
  | b :: bs, blks, h => by
    simp only [ownBlks] at h
    split at h
    · rename_i esz es xs h1 h2
      cases h
      obtain ⟨g1, g2⟩ := ownBlks_get H bs xs h2
      refine ⟨by simp [g1], fun i b' hi => ?_⟩
      cases i with
      | zero => simp at hi; subst hi; exact ⟨esz, es, h1, rfl⟩
      | succ i => simpa using g2 i b' (by simpa using hi)
    · simp at h

theorem idxOf_get {own : List Nat} {b : Nat} (h : b ∈ own) : own[nameAt own b]? = some b := by
  unfold nameAt
  have h1 : own.idxOf b < own.length := List.idxOf_lt_length_iff.2 h
  rw [List.getElem?_eq_getElem h1, List.getElem_idxOf h1]

/-- The view of what is handed over, within the view of the whole. -/
structure Hand (x1 x2 : Cx) (own : List Nat) : Prop where
  w : x2.w = x1.w
  cm : x2.CM = x1.CM
  hp : ∀ (i : Nat) (blk : Blk), x2.hp i = some blk → ∃ b, own[i]? = some b ∧ x1.hp b = some blk
  hp' : ∀ (i b : Nat) (blk : Blk), own[i]? = some b → x1.hp b = some blk → x2.hp i = some blk
  γ : ∀ (i b : Nat), own[i]? = some b → x2.γ i = x1.γ b
  U : ∀ (i b : Nat), own[i]? = some b → x2.U i

theorem Hand.ok {x1 x2 : Cx} {own : List Nat} (h : Hand x1 x2 own) {c : Nat} (hc : x1.ok c) : x2.ok c := by
  refine ⟨by rw [h.cm]; exact hc.1, fun ⟨i, blk, h1, h2, h3⟩ => hc.2 ?_⟩
  obtain ⟨b, hb, hb2⟩ := h.hp i blk h1
  exact ⟨b, blk, hb2, h2, (h.γ i b hb).symm.trans h3⟩

theorem Hand.d {x1 x2 : Cx} {own : List Nat} (h : Hand x1 x2 own) {v : Value} {d : D} (hd : DRel x1.w x1.ok v d) : DRel x2.w x2.ok v d :=
  hd.mono fun c _ hc ho => ⟨h.ok hc, by rw [h.w]; exact ho⟩

theorem Hand.c {x1 x2 : Cx} {own : List Nat} (h : Hand x1 x2 own) {v : Value} {y : C} (hv : CRel x1 v y) (hg : GoodC x1.hp own y) : CRel x2 v (y.at own) := by
  rcases hg.go with ⟨e, rfl⟩ | ⟨b, g, off, n, esz, es, rfl, hb, hblk, hl⟩
  · exact .d _ _ (h.d hv.d_inv)
  · have hi := idxOf_get hb
    show CRel x2 v (.ref (nameAt own b) g off n)
    cases hv with
    | refNil _ _ _ hb2 hu =>
      rw [hblk] at hb2
      cases hb2
      exact .refNil _ _ _ (h.hp' _ b _ hi hblk) (h.U _ b hi)
    | ref _ c _ _ cap esz' es' fz' arr e fr hb2 hg2 hw h1 h2 h3 hu =>
      rw [hblk] at hb2
      cases hb2
      exact .ref _ c off n cap esz es false arr e fr (h.hp' _ b _ hi hblk) ((h.γ _ b hi).trans hg2) (by rw [h.w]; exact hw) h1 h2 h3 (h.U _ b hi)
    | refOld _ _ _ _ _ _ _ ho =>
      rcases ho with ho | ⟨_, _, _, ho, hl2⟩
      · rw [hblk] at ho; simp at ho
      · rw [hblk] at ho; cases ho; omega

theorem Hand.v1 {x1 x2 : Cx} {own : List Nat} (h : Hand x1 x2 own) {v : Value} {y : V} (hv : VRel x1 v y) (hg : Good1 x1.hp own y) : VRel x2 v (y.at own) := by
  cases hg with
  | c y hg => exact .c _ _ (h.c hv.c_inv hg)
  | agg cs hg =>
    cases hv with
    | agg arr _ hsz hr =>
      refine .agg arr _ (by simpa using hsz) fun j y hj => ?_
      obtain ⟨c, hc, rfl⟩ := get_map hj
      exact h.c (hr j c hc) (hg c (List.mem_of_getElem? hc))

theorem atL_get (own : List Nat) (hp : HpF) : ∀ (vs : List V), (∀ v ∈ vs, Good1 hp own v) → V.at.V.atL own vs = vs.map (V.at own)
  | [], _ => rfl
  | v :: vs, h => by
    have ih := atL_get own hp vs fun v hv => h v (List.mem_cons_of_mem _ hv)
    cases h v (by simp) with
    | c y _ => rw [V.at.V.atL, ih]; rfl
    | agg cs _ => rw [V.at.V.atL, ih]; rfl

theorem VRels.get {x : Cx} {vs : List Value} {ys : List V} (h : VRels x vs ys) : vs.length = ys.length ∧ ∀ (j : Nat) (y : V), ys[j]? = some y → VRel x (vs.getD j undef) y := by
  induction h with
  | nil => exact ⟨rfl, fun j y h => by simp at h⟩
  | cons hv _ ih =>
    refine ⟨by simp [ih.1], fun j y hj => ?_⟩
    cases j with
    | zero => simp at hj; subst hj; simpa using hv
    | succ j => simpa using ih.2 j y (by simpa using hj)

/-- The value that a function returns. -/
def oneR (vs : List Value) : Value := match vs with
  | [v] => v
  | vs => .tuple vs.toArray

theorem Hand.one {x1 x2 : Cx} {own : List Nat} (h : Hand x1 x2 own) {vs : List Value} {ys : List V} (hv : VRels x1 vs ys) (hg : ∀ y ∈ ys, Good1 x1.hp own y) :
    VRel x2 (oneR vs) ((oneV ys).at own) := by
  match vs, ys, hv with
  | [_], [y], .cons hv .nil => exact (h.v1 hv (hg y List.mem_cons_self) : VRel x2 _ (V.at own y))
  | [], [], .nil => exact .tup #[] [] rfl fun j y hj => by simp at hj
  | v1 :: v2 :: vs, y1 :: y2 :: ys, hv =>
    obtain ⟨h1, h2⟩ := hv.get
    show VRel x2 (.tuple _) (.tup (V.at.V.atL own (y1 :: y2 :: ys)))
    rw [atL_get own x1.hp _ hg]
    refine .tup _ _ (by simpa using h1) fun j y hj => ?_
    obtain ⟨c, hc, rfl⟩ := get_map hj
    have := h.v1 (h2 j c hc) (hg c (List.mem_of_getElem? hc))
    simpa [Array.getD_eq_getD_getElem?, List.getD_eq_getElem?_getD] using this

theorem run_results {P : Program} {fn : Func} {tmps : Array Value} {w : World} {vs : List Value} (h : (fn.results.toList.mapM (resOne tmps)).run P w = .ok vs w) :
    (results fn tmps).run P w = .ok (oneR vs) w := by
  have e : results fn tmps = (do
      let vs ← fn.results.mapM (resOne tmps)
      pure (if h : vs.size = 1 then vs[0] else .tuple vs)) := by
    unfold results
    congr 1
  rw [e, Sem.run_bind, Array.mapM_eq_mapM_toList, Sem.run_map, h]
  match vs with
  | [] => rfl
  | [v] => rfl
  | v1 :: v2 :: vs => rfl

theorem nodup_get {l : List Nat} (h : l.Nodup) : ∀ {i j b : Nat}, l[i]? = some b → l[j]? = some b → i = j := by
  induction l with
  | nil => intro i j b hi; simp at hi
  | cons a l ih =>
    intro i j b hi hj
    rw [List.nodup_cons] at h
    cases i with
    | zero =>
      cases j with
      | zero => rfl
      | succ j =>
        simp at hi hj
        subst hi
        exact absurd (List.mem_of_getElem? hj) h.1
    | succ i =>
      cases j with
      | zero =>
        simp at hi hj
        subst hj
        exact absurd (List.mem_of_getElem? hi) h.1
      | succ j =>
        simp at hi hj
        rw [ih h.2 hi hj]

theorem PRels.length {w : World} {ok : Nat → Prop} {vs : List Value} {ps : List PV} (h : PRels w ok vs ps) : vs.length = ps.length := by
  induction h with
  | nil => rfl
  | cons _ _ ih => simp [ih]

theorem Calls.of_T {P : Program} {tv : Tv} (env : Env P tv) {f : Nat} {fn : Func} {code : Code} {L : LC} (hf : P.funcs[f]? = some fn)
    (hb : fn.body = some code) (hl : light fn.ntmps code = some L) (own : List Nat) {res : V} {blks : List Blk} (hnd : own.Nodup) {tm0 : Tm}
    (h : T P fn.ntmps 0 ⟨tm0, [], 0⟩ L (retT P tv own fn.results.toList res blks)) {CM : Nat → Prop} {w : World} {vs : List Value} (hlen : vs.length ≤ fn.ntmps)
    (hs0 : SRel ((St.mk tm0 [] 0).cx w (fun _ => none) CM) (getV tm0) { tmps := vs.toArray ++ Array.replicate (fn.ntmps - vs.toArray.size) undef, defers := [] }) :
    Calls P f vs.toArray w fun e w' => ∃ v γ, e = .returned v ∧ PostC CM w γ blks w' v res := by
  refine calls_of_wp hf hb (wp_mono (h (Nat.zero_le _) code hl CM _ _ w ?_ hs0) fun e a' w' hp => ?_)
  · simp
    omega
  obtain ⟨σ', γ', hq, hn', hsz, hs, hfr, hev⟩ := hp
  -- the results
  have key : (resP tv own (getV σ'.tm) fn.results.toList).vc P σ'.hp (fun v hp _ => VLe (V.at own v) res ∧ ownBlks hp own = some blks) →
      a'.defers = [] ∧ ∃ v, (results fn a'.tmps).run P w' = .ok v w' ∧ ∃ v' γ, Ending.returned v = .returned v' ∧ PostC CM w γ blks w' v' res := by
    intro hq
    obtain ⟨v, hp1, fp, hx, hres, hown⟩ := Prog.vc_exec _ hq
    obtain ⟨ys, vs', fp1, hx, hvs, hrun⟩ := resL_sim env.tv hs fn.results.toList hx
    obtain ⟨ds, hp2, fp2, hx, hh2, hf2, he2, hv2, hg2, _⟩ := keepVs_sim hs.toHRel hvs hx
    obtain ⟨rfl, rfl, _⟩ := hx
    obtain ⟨hbl, hbg⟩ := ownBlks_get hp1 own blks hown
    refine ⟨hs.defers, _, run_results hrun, _, fun i => (own[i]?).bind γ', rfl, ?_⟩
    have hand : Hand { σ'.cx w' γ' CM with hp := look hp1 } ⟨w', fun i => (own[i]?).bind γ', fun j => blks[j]?, CM, fun b => b < blks.length⟩ own :=
      { w := rfl
        cm := rfl
        hp := fun i blk hi => by
          have hi' : i < own.length := by rw [← hbl]; exact (List.getElem?_eq_some_iff.1 hi).1
          obtain ⟨esz, es, h1, h2⟩ := hbg i own[i] (List.getElem?_eq_getElem hi')
          have hi : blks[i]? = some blk := hi
          rw [h2] at hi
          cases hi
          exact ⟨_, List.getElem?_eq_getElem hi', h1⟩
        hp' := fun i b blk hi hb => by
          obtain ⟨esz, es, h1, h2⟩ := hbg i b hi
          have hb : look hp1 b = some blk := hb
          rw [h1] at hb
          cases hb
          exact h2
        γ := fun i b hi => by simp [hi, St.cx]
        U := fun i b hi => by
          show i < blks.length
          rw [hbl]
          exact (List.getElem?_eq_some_iff.1 hi).1 }
    have hfr1 : Fr ((St.mk tm0 [] 0).cx w (fun _ => none) CM) { σ'.cx w' γ' CM with hp := look hp1 } := hfr.trans hf2
    have notMut0 : ∀ c, ¬ Mut ((St.mk tm0 [] 0).cx w (fun _ => none) CM).γ ((St.mk tm0 [] 0).cx w (fun _ => none) CM).hp c := fun c ⟨b, blk, h1, _⟩ => by simp [St.cx, look] at h1
    have newb : ∀ i c, (own[i]?).bind γ' = some c → w.heap.size ≤ c := fun i c hc => by
      obtain ⟨b, hb, hgb⟩ := Option.bind_eq_some_iff.1 hc
      obtain ⟨esz, es, h1, h2⟩ := hbg i b hb
      rcases Nat.lt_or_ge c w.heap.size with hlt | hge
      · exact absurd (hfr1.muts c hlt ⟨b, _, h1, rfl, hgb⟩) (notMut0 c)
      · exact hge
    refine { h := ⟨fun i blk hi => ?_, fun i i' c h1 h2 => ?_, fun i c h1 => ?_, ?_⟩, v := hres.on (hand.one hv2 hg2), fr := ?_, new := newb, dom := ?_ }
    · obtain ⟨b, hb, hblk⟩ := hand.hp i blk hi
      refine ⟨hand.U i b hb, ?_⟩
      obtain ⟨esz, es, h1, h2⟩ := hbg i b hb
      have hi : blks[i]? = some blk := hi
      rw [h2] at hi
      cases hi
      obtain ⟨g1, g2⟩ := (hh2.hp b _ hblk).2
      refine ⟨g1, ?_⟩
      rcases g2 with ⟨g2, g3⟩ | ⟨c, arr, e, g2, g3, g4, g5⟩
      · exact .inl ⟨(hand.γ i b hb).trans g2, g3⟩
      · exact .inr ⟨c, arr, e, (hand.γ i b hb).trans g2, g3, g4, fun i cs j y hi hj => hand.d (g5 i cs j y hi hj)⟩
    · have h1 : (own[i]?).bind γ' = some c := h1
      have h2 : (own[i']?).bind γ' = some c := h2
      obtain ⟨b, hb, hgb⟩ := Option.bind_eq_some_iff.1 h1
      obtain ⟨b', hb', hgb'⟩ := Option.bind_eq_some_iff.1 h2
      have := hs.inj b b' c hgb hgb'
      subst this
      exact nodup_get hnd hb hb'
    · have h1 : (own[i]?).bind γ' = some c := h1
      obtain ⟨b, hb, hgb⟩ := Option.bind_eq_some_iff.1 h1
      exact hs.lt b c hgb
    · exact hs.cm
    · exact
        { os := hfr1.os
          tape := hfr1.tape
          output := hfr1.output
          size := hfr1.size
          same := fun c hc _ => hfr1.same c hc (notMut0 c)
          muts := fun c hc ⟨i, blk, g1, g2, g3⟩ => by
            have := newb i c g3
            have hc : c < w.heap.size := hc
            omega
          sz := hfr1.sz
          orig := hfr1.orig
          cm := rfl }
    · intro i c h1
      obtain ⟨b, hb, hgb⟩ := Option.bind_eq_some_iff.1 h1
      show i < blks.length
      rw [hbl]
      exact (List.getElem?_eq_some_iff.1 hb).1
  cases e with
  | normal => exact key hq
  | ret => exact key hq
  | _ => exact hq.elim


theorem Gives.of_T {P : Program} {tv : Tv} (env : Env P tv) {f : Nat} {fn : Func} {code : Code} {L : LC} (hf : P.funcs[f]? = some fn) (hn : (fn.name == "runtime.NumGoroutine") = false)
    (hb : fn.body = some code) (hl : light fn.ntmps code = some L) {args : List PV} (hlen : args.length ≤ fn.ntmps) (own : List Nat) {res : V} {blks : List Blk} (hnd : own.Nodup)
    (h : T P fn.ntmps 0 ⟨argTm 0 args, [], 0⟩ L (retT P tv own fn.results.toList res blks)) : Gives P f args res blks := by
  refine ⟨fn, hf, hn, by rw [hb]; rfl, fun CM w vs hCM hps => ?_⟩
  have hps0 : PRels ((St.mk (argTm 0 args) [] 0).cx w (fun _ => none) CM).w ((St.mk (argTm 0 args) [] 0).cx w (fun _ => none) CM).ok vs args :=
    hps.cm fun c hc => ⟨hc, fun ⟨b, blk, h1, _⟩ => by simp [St.cx, look] at h1⟩
  have hvl : vs.length = args.length := hps.length
  have hs0 : SRel ((St.mk (argTm 0 args) [] 0).cx w (fun _ => none) CM) (getV (argTm 0 args)) { tmps := vs.toArray ++ Array.replicate (fn.ntmps - vs.toArray.size) undef, defers := [] } :=
    { hp := fun b blk hb => by simp [St.cx, look] at hb
      inj := fun b b' c hb => by simp [St.cx] at hb
      lt := fun b c hb => by simp [St.cx] at hb
      cm := hCM
      tm := fun t => by
        have := argTm_rel hps0 0 t (List.replicate (fn.ntmps - vs.length) undef) (Nat.zero_le _)
        have e : (vs.toArray ++ Array.replicate (fn.ntmps - vs.toArray.size) undef).getD t undef = (vs ++ List.replicate (fn.ntmps - vs.length) undef).getD t undef := by
          have e2 : vs.toArray ++ Array.replicate (fn.ntmps - vs.toArray.size) undef = (vs ++ List.replicate (fn.ntmps - vs.length) undef).toArray := by
            apply Array.ext'
            simp
          rw [e2]
          simp [Array.getD_eq_getD_getElem?, List.getD_eq_getElem?_getD]
        rw [Nat.sub_zero] at this
        exact e ▸ this
      defers := rfl }
  exact Calls.of_T env hf hb hl own hnd h (by omega) hs0

end Go.Vs

/- Calls that write into the caller's blocks: deep contracts; regions in text order, operation by operation. -/
namespace Go.Vs

/-- Function f, called with these arguments over these blocks, ends as Q says of its result, the blocks, the names in use. -/
def Deep (P : Program) (f : Nat) (args : List V) (hp : Hp) (nx : Nat) (Q : V → Hp → Nat → Prop) : Prop :=
  ∃ fn, P.funcs[f]? = some fn ∧ (fn.name == "runtime.NumGoroutine") = false ∧ fn.body.isNone = false ∧
    ∀ (CM : Nat → Prop) (γ : Gam) (w : World) (vs : List Value), HRel ((St.mk [] hp nx).cx w γ CM) → VRels ((St.mk [] hp nx).cx w γ CM) vs args →
      Calls P f vs.toArray w fun e w' => ∃ v γ' res hp' nx', e = .returned v ∧ Q res hp' nx' ∧ nx ≤ nx' ∧ HRel ((St.mk [] hp' nx').cx w' γ' CM) ∧
        VRel ((St.mk [] hp' nx').cx w' γ' CM) v res ∧ Fr ((St.mk [] hp nx).cx w γ CM) ((St.mk [] hp' nx').cx w' γ' CM) ∧
        Ev (fun b => b < nx) ((St.mk [] hp nx).cx w γ CM) ((St.mk [] hp' nx').cx w' γ' CM)

theorem Deep.mono {P : Program} {f : Nat} {args : List V} {hp : Hp} {nx : Nat} {Q Q' : V → Hp → Nat → Prop} (h : Deep P f args hp nx Q) (hq : ∀ v hp' nx', Q v hp' nx' → Q' v hp' nx') :
    Deep P f args hp nx Q' := by
  obtain ⟨fn, h1, h2, h3, h⟩ := h
  refine ⟨fn, h1, h2, h3, fun CM γ w vs hh hv => (h CM γ w vs hh hv).mono ?_⟩
  rintro e w' ⟨v, γ', res, hp', nx', g1, g2, g3⟩
  exact ⟨v, γ', res, hp', nx', g1, hq _ _ _ g2, g3⟩

def argTmV (i : Nat) : List V → Tm
  | [] => []
  | p :: ps => (i, p) :: argTmV (i + 1) ps

theorem argTmV_rel {x : Cx} : ∀ {vs : List Value} {ps : List V}, VRels x vs ps → ∀ (i t : Nat) (more : List Value), i ≤ t → VRel x ((vs ++ more).getD (t - i) undef) (getV (argTmV i ps) t)
  | _, _, .nil, i, t, more, _ => .junk _
  | _, _, .cons (v := v) (y := p) (vs := vs) (ys := ps) hp hps, i, t, more, hit => by
    by_cases h : t = i
    · subst h
      have e : getV (argTmV t (p :: ps)) t = p := by simp [argTmV, getV, look]
      rw [e]
      simpa using hp
    · have e : getV (argTmV i (p :: ps)) t = getV (argTmV (i + 1) ps) t := by
        have : ¬ i = t := fun e => h e.symm
        simp [argTmV, getV, look, this]
      have := argTmV_rel hps (i + 1) t more (by omega)
      rw [e]
      rw [show t - i = (t - (i + 1)) + 1 by omega]
      simpa using this

/-- The end of a function that is called deep. -/
def retD (P : Program) (tv : Tv) (n0 : Nat) (rs : List ResultVar) (Q : V → Hp → Nat → Prop) : Exit → St → Prop
  | .normal, σ | .ret, σ => (resP tv [] (getV σ.tm) rs).vc P σ.hp fun v hp _ => ∃ res hp' nx', VLe v res ∧ Wk n0 ⟨[(0, res)], hp, σ.nx⟩ ⟨[(0, res)], hp', nx'⟩ ∧ Q res hp' nx'
  | _, _ => False

theorem VRels.one {x : Cx} {hp : HpF} {vs : List Value} {ys : List V} (hv : VRels x vs ys) (hg : ∀ y ∈ ys, Good1 hp [] y) : VRel x (oneR vs) (oneV ys) := by
  match vs, ys, hv with
  | [_], [y], .cons hv .nil => exact hv
  | [], [], .nil => exact .tup #[] [] rfl fun j y hj => by simp at hj
  | v1 :: v2 :: vs, y1 :: y2 :: ys, hv =>
    obtain ⟨h1, h2⟩ := hv.get
    refine .tup _ _ (by simpa using h1) fun j y hj => ?_
    have := h2 j y hj
    simpa [Array.getD_eq_getD_getElem?, List.getD_eq_getElem?_getD] using this

theorem VRels.length {x : Cx} {vs : List Value} {ys : List V} (h : VRels x vs ys) : vs.length = ys.length := h.get.1

theorem Deep.of_T {P : Program} {tv : Tv} (env : Env P tv) {f : Nat} {fn : Func} {code : Code} {L : LC} (hf : P.funcs[f]? = some fn) (hn : (fn.name == "runtime.NumGoroutine") = false)
    (hb : fn.body = some code) (hl : light fn.ntmps code = some L) {args : List V} (hlen : args.length ≤ fn.ntmps) {hp : Hp} {nx : Nat} {Q : V → Hp → Nat → Prop}
    (h : T P fn.ntmps nx ⟨argTmV 0 args, hp, nx⟩ L (retD P tv nx fn.results.toList Q)) : Deep P f args hp nx Q := by
  refine ⟨fn, hf, hn, by rw [hb]; rfl, fun CM γ w vs hh hvs => ?_⟩
  have hvl : vs.length = args.length := hvs.length
  have hs0 : SRel ((St.mk (argTmV 0 args) hp nx).cx w γ CM) (getV (argTmV 0 args)) { tmps := vs.toArray ++ Array.replicate (fn.ntmps - vs.toArray.size) undef, defers := [] } :=
    { hp := hh.hp
      inj := hh.inj
      lt := hh.lt
      cm := hh.cm
      tm := fun t => by
        have := argTmV_rel hvs 0 t (List.replicate (fn.ntmps - vs.length) undef) (Nat.zero_le _)
        have e : (vs.toArray ++ Array.replicate (fn.ntmps - vs.toArray.size) undef).getD t undef = (vs ++ List.replicate (fn.ntmps - vs.length) undef).getD t undef := by
          have e2 : vs.toArray ++ Array.replicate (fn.ntmps - vs.toArray.size) undef = (vs ++ List.replicate (fn.ntmps - vs.length) undef).toArray := by
            apply Array.ext'
            simp
          rw [e2]
          simp [Array.getD_eq_getD_getElem?, List.getD_eq_getElem?_getD]
        rw [Nat.sub_zero] at this
        exact e ▸ this
      defers := rfl }
  refine calls_of_wp hf hb (wp_mono (h (Nat.le_refl _) code hl CM _ _ w ?_ hs0) fun e a' w' hp => ?_)
  · simp
    omega
  obtain ⟨σ', γ', hq, hn', hsz, hs, hfr, hev⟩ := hp
  have key : ((resP tv [] (getV σ'.tm) fn.results.toList).vc P σ'.hp fun v hp _ => ∃ res hp' nx', VLe v res ∧ Wk nx ⟨[(0, res)], hp, σ'.nx⟩ ⟨[(0, res)], hp', nx'⟩ ∧ Q res hp' nx') →
      a'.defers = [] ∧ ∃ v, (results fn a'.tmps).run P w' = .ok v w' ∧ ∃ v' γ' res hp' nx', Ending.returned v = .returned v' ∧ Q res hp' nx' ∧ nx ≤ nx' ∧
        HRel ((St.mk [] hp' nx').cx w' γ' CM) ∧ VRel ((St.mk [] hp' nx').cx w' γ' CM) v' res ∧ Fr ((St.mk [] hp nx).cx w γ CM) ((St.mk [] hp' nx').cx w' γ' CM) ∧
        Ev (fun b => b < nx) ((St.mk [] hp nx).cx w γ CM) ((St.mk [] hp' nx').cx w' γ' CM) := by
    intro hq
    obtain ⟨v, hp1, fp, hx, res, hp', nx', hle, hwk, hQ⟩ := Prog.vc_exec _ hq
    obtain ⟨ys, vs', fp1, hx, hvs, hrun⟩ := resL_sim env.tv hs fn.results.toList hx
    obtain ⟨ds, hp2, fp2, hx, hh2, hf2, he2, hv2, hg2, _⟩ := keepVs_sim hs.toHRel hvs hx
    obtain ⟨rfl, rfl, _⟩ := hx
    refine ⟨hs.defers, _, run_results hrun, oneR vs', ?_⟩
    have hs2 : SRel ((St.mk [(0, res)] hp1 σ'.nx).cx w' γ' CM) (getV [(0, res)]) { tmps := #[oneR vs'], defers := [] } :=
      { hp := hh2.hp
        inj := hh2.inj
        lt := hh2.lt
        cm := hh2.cm
        tm := fun t => by
          cases t with
          | zero => exact hle.on (hv2.one hg2)
          | succ t =>
            have : getV [(0, res)] (t + 1) = .junk := rfl
            rw [this]
            exact .junk _
        defers := rfl }
    obtain ⟨g1, g2⟩ := hwk hn'
    obtain ⟨γ2, k1, k2, k3⟩ := g2 CM γ' _ w' hs2
    refine ⟨γ2, res, hp', nx', rfl, hQ, g1, k1.toHRel, k1.tm 0, (hfr.trans hf2).trans k2, (hev.trans (he2.sub fun b hb => Nat.lt_of_lt_of_le hb hn')).trans k3⟩
  cases e with
  | normal => exact key hq
  | ret => exact key hq
  | _ => exact hq.elim

/-! ### Regions in text order -/

def ptrArg : V → Bool
  | .c (.ptr _ _) => true
  | _ => false

def anyPtr : List V → Bool
  | [] => false
  | v :: vs => ptrArg v || anyPtr vs

/-- Slices that are handed to a call are frozen. -/
def frzV (hp : Hp) (v : V) : Hp :=
  match v with
  | .c (.ref b _ _ _) => match look hp b with
    | some (.sl esz es _) => setL hp b (.sl esz es true)
    | _ => hp
  | _ => hp
def frzVs (hp : Hp) : List V → Hp
  | [] => hp
  | v :: vs => frzVs (frzV hp v) vs

/-- Is a slice handed over that may still be written? -/
def mutV (hp : Hp) (v : V) : Bool :=
  match v with
  | .c (.ref b _ _ _) => match look hp b with
    | some (.sl _ _ fz) => !fz
    | _ => false
  | _ => false
def mutVs (hp : Hp) : List V → Bool
  | [] => false
  | v :: vs => mutV hp v || mutVs hp vs

theorem frz_rel {w : World} {γ : Gam} {CM : Nat → Prop} {nx : Nat} : ∀ (vs : List V) {tm : Tm} {hp : Hp} {f : Nat → V} {a : Act}, SRel ((St.mk tm hp nx).cx w γ CM) f a →
    SRel ((St.mk tm (frzVs hp vs) nx).cx w γ CM) f a ∧ Fr ((St.mk tm hp nx).cx w γ CM) ((St.mk tm (frzVs hp vs) nx).cx w γ CM) ∧
      Ev (fun b => b < nx) ((St.mk tm hp nx).cx w γ CM) ((St.mk tm (frzVs hp vs) nx).cx w γ CM)
  | [], tm, hp, f, a, hs => ⟨hs, Fr.refl _, Ev.refl fun _ h => h⟩
  | v :: vs, tm, hp, f, a, hs => by
    have one : SRel ((St.mk tm (frzV hp v) nx).cx w γ CM) f a ∧ Fr ((St.mk tm hp nx).cx w γ CM) ((St.mk tm (frzV hp v) nx).cx w γ CM) ∧
        Ev (fun b => b < nx) ((St.mk tm hp nx).cx w γ CM) ((St.mk tm (frzV hp v) nx).cx w γ CM) := by
      have same : SRel ((St.mk tm hp nx).cx w γ CM) f a ∧ Fr ((St.mk tm hp nx).cx w γ CM) ((St.mk tm hp nx).cx w γ CM) ∧
        Ev (fun b => b < nx) ((St.mk tm hp nx).cx w γ CM) ((St.mk tm hp nx).cx w γ CM) := ⟨hs, Fr.refl _, Ev.refl fun _ h => h⟩
      unfold frzV
      split
      · rename_i b g off n
        split
        · rename_i esz es fz hb
          have hb' : ((St.mk tm hp nx).cx w γ CM).hp b = some (.sl esz es fz) := hb
          have e : (St.mk tm (setL hp b (.sl esz es true)) nx).cx w γ CM = { (St.mk tm hp nx).cx w γ CM with hp := upd (look hp) b (.sl esz es true) } := by
            unfold St.cx
            rw [look_setL]
          rw [e]
          have h1 := fz_h hs.toHRel hb'
          have h2 := fz_fr hb'
          have h3 := fz_ev hb'
          exact ⟨{ h1 with tm := fun t => (hs.tm t).on h2 h3, defers := hs.defers }, h2, h3⟩
        · exact same
      · exact same
    obtain ⟨g1, g2, g3⟩ := one
    obtain ⟨k1, k2, k3⟩ := frz_rel vs g1
    exact ⟨k1, g2.trans k2, g3.trans k3⟩

/-- Is anything lent among the arguments? -/
def isCd : C → Bool
  | .cd _ _ => true
  | _ => false
def anyCdL : List C → Bool
  | [] => false
  | c :: cs => isCd c || anyCdL cs
def cdV : V → Bool
  | .c x => isCd x
  | .agg cs => anyCdL cs
  | _ => false
def anyCd : List V → Bool
  | [] => false
  | v :: vs => cdV v || anyCd vs

/-- A call in a region in text order: one that is given a pointer to a block of the caller's is deep. -/
def callO (P : Program) (nx : Nat) (target : V) (args : List V) (hp : Hp) (K : V → Hp → Nat → Prop) : Prop :=
  match target.fn? with
  | some (f, cap) => if anyPtr (args ++ cap.map .c) then Deep P f (args ++ cap.map .c) hp nx K
    else if anyCd (args ++ cap.map .c) then
      Deep P f (args ++ cap.map .c) hp nx K ∨
      ((borVs (args ++ cap.map .c) fun ps br => .call f ps br nx).vc P hp fun v hp' _ => K v hp' (nx + 4))
    else if mutVs hp (args ++ cap.map .c) then
      ((borVs (args ++ cap.map .c) fun ps br => .call f ps br nx).vc P hp fun v hp' _ => K v hp' (nx + 4)) ∨
      ((borVs (args ++ cap.map .c) fun ps br => .call f ps br nx).vc P (frzVs hp (args ++ cap.map .c)) fun v hp' _ => K v hp' (nx + 4))
    else (borVs (args ++ cap.map .c) fun ps br => .call f ps br nx).vc P hp fun v hp' _ => K v hp' (nx + 4)
  | none => False

def opO (P : Program) (tv : Tv) (nx : Nat) (ρ : Operand → V) (op : Op) (hp : Hp) (K : V → Hp → Nat → Prop) : Prop :=
  match op with
  | .call { callee := .value f, args, .. } => callO P nx (ρ f) (args.toList.map ρ) hp K
  | _ => (semOp tv nx ρ op).vc P hp fun v hp' _ => K v hp' (nx + 4)

def vcO (P : Program) (tv : Tv) : List LOp → Tm → Hp → Nat → (Tm → Hp → Nat → Prop) → Prop
  | [], tm, hp, nx, K => K tm hp nx
  | o :: l, tm, hp, nx, K => match o.guard with
    | none => opO P tv nx (operV (getV tm)) o.op hp fun v hp' nx' => vcO P tv l (putL o.dst v tm) hp' nx' K
    | some (t, want) => forkV (getV tm t) (vcO P tv l (putL o.dst (.tup []) tm) hp (nx + 4) K) fun b =>
        if b = want then opO P tv nx (operV (getV (setL tm t (.c (.d (.bool b)))))) o.op hp fun v hp' nx' => vcO P tv l (putL o.dst v (setL tm t (.c (.d (.bool b))))) hp' nx' K
        else vcO P tv l (putL o.dst (.tup []) (setL tm t (.c (.d (.bool b))))) hp (nx + 4) K

section
variable {P : Program} {tv : Tv} {N n0 : Nat}

/-- One operation. -/
theorem opO_sim {arr : Array Oper} {i nx : Nat} {o : Oper} {tm : Tm} {hp : Hp} {a : Act} {w : World} {γ : Gam} {CM : Nat → Prop} {K : V → Hp → Nat → Prop}
    {R : Act → World → Prop} {Q : Exit → Act → World → Prop} (htv : TvOk P tv) (hi : arr[i]? = some o) (hg : guardV arr (getV tm) o = some true)
    (hs : SRel ((St.mk tm hp nx).cx w γ CM) (getV tm) a) (hd : ∀ d, o.dst = some d → d < a.tmps.size) (h : opO P tv nx (operV (getV tm)) o.op hp K)
    (hK : ∀ a' w' γ' v hp' nx', K v hp' nx' → nx ≤ nx' → SRel ((St.mk tm hp' nx').cx w' γ' CM) (putF o.dst v (getV tm)) a' → Fr ((St.mk tm hp nx).cx w γ CM) ((St.mk tm hp' nx').cx w' γ' CM) →
      Ev (fun b => b < nx) ((St.mk tm hp nx).cx w γ CM) ((St.mk tm hp' nx').cx w' γ' CM) → a'.tmps.size = a.tmps.size → R a' w') : wpOp P arr Q i R a w := by
  have plain : ∀ (hp0 : Hp), SRel ((St.mk tm hp0 nx).cx w γ CM) (getV tm) a → Fr ((St.mk tm hp nx).cx w γ CM) ((St.mk tm hp0 nx).cx w γ CM) →
      Ev (fun b => b < nx) ((St.mk tm hp nx).cx w γ CM) ((St.mk tm hp0 nx).cx w γ CM) → ((semOp tv nx (operV (getV tm)) o.op).vc P hp0 fun v hp' _ => K v hp' (nx + 4)) → wpOp P arr Q i R a w := by
    intro hp0 hs hf0 he0 h
    obtain ⟨v, hp1, fp, hx, hk⟩ := Prog.vc_exec _ h
    have eU : ((St.mk tm hp0 nx).cx w γ CM |>.more nx).U = fun b => b < nx + 4 := by
      funext b
      apply propext
      show (b < nx ∨ _) ↔ _
      constructor
      · rintro (h | h)
        · omega
        · exact h.2
      · intro h
        rcases Nat.lt_or_ge b nx with h1 | h1
        · exact .inl h1
        · exact .inr ⟨h1, h⟩
    refine step_sim (x := (St.mk tm hp0 nx).cx w γ CM) htv hi hs hd (fun j hj _ hu => ?_) ⟨.inl ⟨hg, hx⟩⟩ fun a' w' γ' gs gf ge gsz => ?_
    · have hu : j < nx := hu
      omega
    · rw [eU] at gs gf ge
      exact hK a' w' γ' v hp1 (nx + 4) hk (by omega) gs (hf0.trans gf) (he0.trans ge) gsz
  unfold opO at h
  split at h
  · rename_i f args ts hop
    unfold callO at h
    split at h
    · rename_i g cap hgf
      have deep : Deep P g (args.toList.map (operV (getV tm)) ++ cap.map .c) hp nx K → wpOp P arr Q i R a w := by
        intro h
        obtain ⟨caps, hev, hsz, hcap⟩ := fn_inv (hs.oper f) hgf
        have hv : VRels ((St.mk tm hp nx).cx w γ CM) ((args.map a.eval).toList ++ caps.toList) (args.toList.map (operV (getV tm)) ++ cap.map .c) := by
          refine VRels.append ?_ (VRels.of_caps (by simpa using hsz) fun j y hj => by
            simpa [List.getD_eq_getElem?_getD, Array.getD_eq_getD_getElem?] using hcap j y hj)
          rw [Array.toList_map]
          exact VRels.of_opers hs _
        obtain ⟨fn, hfn, hn1, hn2, hC⟩ := h
        have hC := hC CM γ w _ hs.toHRel hv
        unfold wpOp
        rw [hi]
        dsimp only
        rw [wanted_of hs hg]
        simp only [if_true]
        left
        have hrun : (execOp a.eval o).run P w = .ok (.enter g (args.map a.eval ++ caps)) w := by
          simp only [execOp, hop, resolve, Deferred.ofValue, hev, invoke, Sem.run_bind, Sem.run_pure, Result.andThen_ok]
          rw [run_callFunc hfn hn1 hn2]
          simp
        unfold Oper.wp
        rw [hrun, Oper.upon_enter]
        have harr : ((args.map a.eval).toList ++ caps.toList).toArray = args.map a.eval ++ caps := by
          apply Array.ext'; simp
        rw [harr] at hC
        refine hC.mono ?_
        rintro e w' ⟨v', γ1, res, hp', nx', rfl, hk, hnx, g1, g2, g3, g4⟩
        have g4' : Ev ((St.mk tm hp nx).cx w γ CM).U ((St.mk tm hp nx).cx w γ CM) ((St.mk tm hp' nx').cx w' γ1 CM) := g4
        exact hK _ _ γ1 res hp' nx' hk hnx { g1 with
          tm := tm_put (fun t => (hs.tm t).on g3 g4') g2 hd
          defers := (Act.put_defers' _ _ _).trans hs.defers } g3 g4 (Act.put_size _ _ _)
      have go : ∀ (hp0 : Hp), SRel ((St.mk tm hp0 nx).cx w γ CM) (getV tm) a → Fr ((St.mk tm hp nx).cx w γ CM) ((St.mk tm hp0 nx).cx w γ CM) →
            Ev (fun b => b < nx) ((St.mk tm hp nx).cx w γ CM) ((St.mk tm hp0 nx).cx w γ CM) →
            ((borVs (args.toList.map (operV (getV tm)) ++ cap.map .c) fun ps br => .call g ps br nx).vc P hp0 fun v hp' _ => K v hp' (nx + 4)) → wpOp P arr Q i R a w := fun hp0 h1 h2 h3 h => by
          refine plain hp0 h1 h2 h3 ?_
          rw [hop]
          show (callV nx (operV (getV tm) f) (args.toList.map (operV (getV tm)))).vc P hp0 _
          unfold callV
          rw [hgf]
          exact h
      split at h
      · exact deep h
      · split at h
        · rcases h with h | h
          · exact deep h
          · exact go hp hs (Fr.refl _) (Ev.refl fun _ h => h) h
        · split at h
          · rcases h with h | h
            · exact go hp hs (Fr.refl _) (Ev.refl fun _ h => h) h
            · obtain ⟨g1, g2, g3⟩ := frz_rel (args.toList.map (operV (getV tm)) ++ cap.map .c) hs
              exact go _ g1 g2 g3 h
          · exact go hp hs (Fr.refl _) (Ev.refl fun _ h => h) h
    · exact h.elim
  · exact plain hp hs (Fr.refl _) (Ev.refl fun _ h => h) h

theorem vcO_sound {x0 : Cx} {arr : Array Oper} {K : Tm → Hp → Nat → Prop} {Q : Exit → St → Prop} (htv : TvOk P tv) (hK : ∀ tm hp nx, K tm hp nx → Q .normal ⟨tm, hp, nx⟩) :
    ∀ (l : List Oper) (ls : List LOp) (i nx : Nat) (tm : Tm) (hp : Hp) (a : Act) (w : World) (γ : Gam), arr.toList.drop i = l → lightOps arr l = some ls → dstsOk N l = true →
      vcO P tv ls tm hp nx K → n0 ≤ nx → a.tmps.size = N → SRel ((St.mk tm hp nx).cx w γ x0.CM) (getV tm) a → Fr x0 ((St.mk tm hp nx).cx w γ x0.CM) →
      Ev (fun b => b < n0) x0 ((St.mk tm hp nx).cx w γ x0.CM) → wpOps P arr (Post N n0 x0 Q) (List.range' i l.length) a w
  | [], ls, i, nx, tm, hp, a, w, γ, hdr, hl, hds, h, hn, ha, hs, hf, he => by
    simp [lightOps] at hl
    subst hl
    exact ⟨⟨tm, hp, nx⟩, γ, hK _ _ _ h, hn, ha, hs, hf, he⟩
  | o :: l, ls, i, nx, tm, hp, a, w, γ, hdr, hl, hds, h, hn, ha, hs, hf, he => by
    simp only [lightOps] at hl
    split at hl
    · rename_i lo xs hlo hxs
      cases hl
      have hi : arr[i]? = some o := by
        have := congrArg (fun l => l[0]?) hdr
        simpa using this
      have hdr' : arr.toList.drop (i + 1) = l := by
        have := congrArg (fun l => l.drop 1) hdr
        simpa [List.drop_drop, Nat.add_comm] using this
      have hds' : dstsOk N l = true ∧ ∀ d, o.dst = some d → d < N := by
        rw [dstsOk, Bool.and_eq_true] at hds
        refine ⟨hds.2, fun d hd => ?_⟩
        have := hds.1
        rw [hd] at this
        simpa using this
      rw [List.length_cons, List.range'_succ, wpOps_cons]
      -- what one operation leads to
      have go : ∀ (tm0 : Tm), getV tm0 = getV tm → guardV arr (getV tm) o = some true →
          opO P tv nx (operV (getV tm)) o.op hp (fun v hp' nx' => vcO P tv xs (putL o.dst v tm0) hp' nx' K) →
          wpOp P arr (Post N n0 x0 Q) i (wpOps P arr (Post N n0 x0 Q) (List.range' (i + 1) l.length)) a w := fun tm0 htm hg h =>
        opO_sim htv hi hg hs (fun d hd => by rw [ha]; exact hds'.2 d hd) h fun a' w' γ' v hp' nx' hk hnx gs gf ge gsz => by
          refine vcO_sound htv hK l xs (i + 1) nx' (putL o.dst v tm0) hp' a' w' γ' hdr' hxs hds'.1 hk (Nat.le_trans hn hnx) (gsz.trans ha) ?_ (hf.trans gf) (he.trans (ge.sub fun b hb => Nat.lt_of_lt_of_le hb hn))
          rw [getV_putL, htm]
          exact gs
      have skip : ∀ (tm0 : Tm), getV tm0 = getV tm → guardV arr (getV tm) o = some false → vcO P tv xs (putL o.dst (.tup []) tm0) hp (nx + 4) K →
          wpOp P arr (Post N n0 x0 Q) i (wpOps P arr (Post N n0 x0 Q) (List.range' (i + 1) l.length)) a w := fun tm0 htm hg h => by
        obtain ⟨s1, s2, s3⟩ := hs.wider (w' := w) (U' := fun b => b < nx + 4) ⟨rfl, rfl, rfl⟩ rfl fun b hb => by
          have hb : b < nx := hb
          omega
        have hrel : SRel ((St.mk (putL o.dst (.tup []) tm0) hp (nx + 4)).cx w γ x0.CM) (getV (putL o.dst (.tup []) tm0)) (a.put o.dst undef) := by
          refine { s1.toHRel with tm := ?_, defers := (Act.put_defers' _ _ _).trans hs.defers }
          rw [getV_putL, htm]
          exact tm_put s1.tm (VRel.tup #[] [] rfl fun j y hj => by simp at hj) fun d hd => by rw [ha]; exact hds'.2 d hd
        unfold wpOp
        rw [hi]
        dsimp only
        rw [wanted_of hs hg]
        simp only [Bool.false_eq_true, if_false]
        exact vcO_sound htv hK l xs (i + 1) (nx + 4) _ hp _ w γ hdr' hxs hds'.1 h (by omega) ((Act.put_size _ _ _).trans ha) hrel (hf.trans s2)
          (he.trans (s3.sub fun b hb => Nat.lt_of_lt_of_le hb hn))
      unfold lightOp at hlo
      split at hlo
      · rename_i hg
        cases hlo
        exact go tm rfl (by simp [guardV, hg]) h
      · rename_i g want hg
        split at hlo
        · rename_i t ht
          cases hlo
          replace h : forkV (getV tm t) _ _ := h
          unfold forkV at h
          split at h
          · rename_i b hb
            replace h : (if b = want then _ else _) := h
            have hsame := getV_same hb
            have hgv : guardV arr (getV tm) o = some (b == want) := by simp [guardV, hg, ht, hb]
            split at h
            · rename_i hbw
              rw [hsame] at h
              exact go _ hsame (by rw [hgv, hbw]; simp) h
            · rename_i hbw
              exact skip _ hsame (by rw [hgv]; simpa using hbw) h
          · rename_i hb
            exact skip tm rfl (by simp [guardV, hg, ht, hb]) h
          · exact h.elim
        · simp at hlo
    · simp at hl

theorem T.regO {σ : St} {Q : Exit → St → Prop} {ops : List LOp} {pairs : List (Nat × Nat)} (env : Env P tv)
    (h : vcO P tv ops σ.tm σ.hp σ.nx fun tm hp nx => Q .normal ⟨tm, hp, nx⟩) : T P N n0 σ (.reg false ops pairs) Q := by
  intro hn c hc CM γ a w ha hs
  obtain ⟨id, arr, rfl, hls, hds, _⟩ := light_reg hc
  refine wp_region ?_
  rw [List.range_eq_range']
  have := vcO_sound (x0 := σ.cx w γ CM) (n0 := n0) (N := N) env.tv (fun tm hp nx h => h) arr.toList ops 0 σ.nx σ.tm σ.hp a w γ (by simp) hls hds h hn ha hs (Fr.refl _) (Ev.refl fun _ hb => Nat.lt_of_lt_of_le hb hn)
  simpa using this
end
end Go.Vs
