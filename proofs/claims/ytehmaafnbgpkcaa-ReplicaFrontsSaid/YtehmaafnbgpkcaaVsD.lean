/- This text proves a part of what the claim needs: contracts of functions of the program. No condition. -/
import Derived.Test.YtehmaafnbgpkcaaVsC
set_option linter.unusedSimpArgs false
set_option linter.unusedVariables false

/- More weakenings: a nil slice in a cell is a slice without elements. -/
namespace Go.Vs

/-- Cells of a block up to nil slices. -/
theorem Wk.boxLe {n0 nx b : Nat} {tm : Tm} {hp : Hp} {cs cs' : List C} (hb : look hp b = some (.box cs)) (hle : CsLe cs cs') :
    Wk n0 ⟨tm, hp, nx⟩ ⟨tm, setL hp b (.box cs'), nx⟩ := fun hn => ⟨hn, fun CM γ a w hs => by
  have hlen := hle.get.1
  have hpe : look (setL hp b (.box cs')) = upd (look hp) b (.box cs') := look_setL _ _ _
  have hpb : look (setL hp b (.box cs')) b = some (.box cs') := by rw [hpe, upd_same]
  have hpo : ∀ i, i ≠ b → look (setL hp b (.box cs')) i = look hp i := fun i h => by rw [hpe, upd_other _ _ h]
  have hfr : Fr ((St.mk tm hp nx).cx w γ CM) ((St.mk tm (setL hp b (.box cs')) nx).cx w γ CM) :=
    { os := rfl
      tape := rfl
      output := rfl
      size := Nat.le_refl _
      same := fun _ _ _ => rfl
      muts := fun c _ ⟨i, blk, g1, g2, g3⟩ => by
        have g1 : look (setL hp b (.box cs')) i = some blk := g1
        by_cases hib : i = b
        · exact ⟨b, _, hb, rfl, hib ▸ g3⟩
        · rw [hpo i hib] at g1
          exact ⟨i, blk, g1, g2, g3⟩
      sz := fun c arr e fr h => ⟨arr, h, rfl⟩
      cm := rfl }
  have hev : Ev (fun i => i < nx) ((St.mk tm hp nx).cx w γ CM) ((St.mk tm (setL hp b (.box cs')) nx).cx w γ CM) :=
    ⟨fun i hi => hi, fun i hi => by
      by_cases hib : i = b
      · subst hib
        unfold EvB
        rw [show ((St.mk tm hp nx).cx w γ CM).hp i = some (.box cs) from hb]
        exact .inr ⟨_, hpb, hlen.symm, rfl⟩
      · exact EvB.same (hpo i hib) rfl⟩
  refine ⟨γ, { hp := fun i blk hi => ?_, inj := hs.inj, lt := hs.lt, cm := hs.cm, tm := fun t => (hs.tm t).on hfr hev, defers := hs.defers }, hfr, hev.sub fun i hi => Nat.lt_of_lt_of_le hi hn⟩
  have hi : look (setL hp b (.box cs')) i = some blk := hi
  by_cases hib : i = b
  · subst hib
    rw [hpb] at hi
    cases hi
    obtain ⟨h1, c, arr, e, h2, h3, h4, h5⟩ := hs.hp i _ hb
    refine ⟨h1, c, arr, e, h2, h3, h4.trans hlen, fun k y hk => ?_⟩
    obtain ⟨x, hx, hxy⟩ := hle.get.2 k y hk
    exact hxy.on ((h5 k x hx).on hfr hev)
  · rw [hpo i hib] at hi
    have := hs.hp i blk hi
    exact ⟨this.1, this.2.on hfr hev rfl fun _ _ => rfl⟩⟩

end Go.Vs
