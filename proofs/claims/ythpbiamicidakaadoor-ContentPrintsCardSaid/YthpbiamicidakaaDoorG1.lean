/- The plain law of the two checks. No condition. -/
import Derived.Test.YthpbiamicidakaaDoorA8
namespace Go.Proofs.YthpbiamicidakaaDoor
open Go Go.Proofs Go.PW
open Go.PW.Enc (enc val)

theorem len_zero (ms : List UInt32) : ((0 : Int) = (ms.length : Int)) ↔ ms = [] := by
  cases ms <;> simp <;> omega
theorem len_pos (ms : List UInt32) : ((0 : Int) < (ms.length : Int)) ↔ ms ≠ [] := by
  cases ms <;> simp <;> omega
theorem rising_all (ms : List UInt32) : risingB ms = (risesB ms && (decide (1 ≤ (ms.length : Int)) && decide ((ms.length : Int) ≤ 100))) := rfl

theorem fits_same (c : Con) (ms : List UInt32) : fitsB c ms = (ownB c ms && othersB c ms) := by
  have hz := len_zero ms
  have hp := len_pos ms
  rw [Bool.eq_iff_iff]
  unfold fitsB fitsSt ownB othersB
  obtain ⟨kind, text, lat, long, number, key⟩ := c
  dsimp only [Con.bare]
  by_cases h1 : kind = 1
  · subst h1
    simp [hz, hp]
    grind
  · by_cases h2 : kind = 2
    · subst h2
      simp [hz, hp, risingB]
      grind
    · by_cases h3 : kind = 3
      · subst h3
        simp [hz, hp]
        grind
      · by_cases h4 : kind = 4
        · subst h4
          simp [hz, hp]
          grind
        · by_cases h5 : kind = 5
          · subst h5
            simp [hz, hp]
            grind
          · by_cases h6 : kind = 6
            · subst h6
              simp [hz, hp]
              grind
            · simp [h1, h2, h3, h4, h5, h6]

theorem chk_same (c : Con) (ms : List UInt32) : chkV c ms = rchkV c ms := by
  have h90 := onEarth_eq c.lat 90 (by rw [whole_90]; decide)
  have h180 := onEarth_eq c.long 180 (by rw [whole_180]; decide)
  rw [whole_90] at h90
  rw [whole_180] at h180
  unfold chkV rchkV
  rw [fits_same]
  have e1 : floatV c.lat.b 90 ≠ 0 ↔ oddB c.lat ⟨4636033603912859648⟩ = true := by
    cases ho : oddB c.lat ⟨4636033603912859648⟩ <;> rw [ho] at h90 <;> simp at h90 ⊢ <;> exact h90
  have e2 : floatV c.long.b 180 ≠ 0 ↔ oddB c.long ⟨4640537203540230144⟩ = true := by
    cases ho : oddB c.long ⟨4640537203540230144⟩ <;> rw [ho] at h180 <;> simp at h180 ⊢ <;> exact h180
  simp only [e1, e2]
  cases ownB c ms <;> cases othersB c ms <;> simp
theorem chk_hi : chkV ⟨1, [104, 105], ⟨0⟩, ⟨0⟩, 1, zarr⟩ [] = 90 := by
  unfold chkV
  rw [if_neg (by rintro ⟨h, _⟩; exact absurd h (by decide)), if_pos (by simp [fitsB, fitsSt, Con.bare])]
end Go.Proofs.YthpbiamicidakaaDoor
