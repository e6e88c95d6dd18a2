/- Checksum of the program and of the reference answer alike at every string. -/
import Derived.Test.YtdijofhhdmlinaaPFnExactChecksumx1
namespace Go.Proofs.Ytdijofhhdmlinaa.Pure
open Go.RowKit Go.Proofs.Ytdijofhhdmlinaa.PFnExactChecksum Go.Proofs.YtdijofhhdmlinaaW.PrintWords Go.Proofs.YtdijofhhdmlinaaW.PrintLast

theorem sum_alike (s : ByteArray) (hn : s.size ≤ 140737488351232) (d : Nat) : ∀ (k : Nat) (h i : Int), 0 ≤ i → i ≤ s.size → (s.size : Int) - i = d → d < k →
    ∃ r, spec_l1Sum.l0 k s h i = some r ∧ impl_checksum.l0 k s h (s.size : Int) i = some r := by
  induction d with
  | zero =>
    intro k h i h0 h1 hd hk
    obtain ⟨k, rfl⟩ : ∃ m, k = m + 1 := ⟨k - 1, by omega⟩
    refine ⟨h, ?_, ?_⟩
    · simp only [spec_l1Sum.l0]; rw [if_neg (by omega)]
    · simp only [impl_checksum.l0]; rw [if_neg (by omega)]
  | succ d ih =>
    intro k h i h0 h1 hd hk
    obtain ⟨k, rfl⟩ : ∃ m, k = m + 1 := ⟨k - 1, by omega⟩
    have hlt : i < (s.size : Int) := by omega
    have hw : wrap64 (i + 1) = i + 1 := by unfold wrap64; omega
    obtain ⟨r, hr, hr'⟩ := ih k (Int.tmod (wrap64 ((wrap64 ((wrap64 (41 * h)) + (wrap64 (bt s i)))) + 1)) 999979) (i + 1) (by omega) (by omega) (by omega) (by omega)
    refine ⟨r, ?_, ?_⟩
    · simp only [spec_l1Sum.l0]; rw [if_pos hlt, if_pos h0, hw]; exact hr
    · simp only [impl_checksum.l0]; rw [if_pos hlt, if_pos h0, if_pos hlt, hw]; exact hr'

theorem FnExactChecksum : laws_FnExactChecksum.Pure := by
  intro s hn
  obtain ⟨r, hr, hr'⟩ := sum_alike s hn s.size (s.size + 1) 7 0 (by omega) (by omega) (by omega) (by omega)
  refine ⟨s.size + 1, ?_⟩
  unfold laws_FnExactChecksum.f spec_Checksum.f impl_Checksum.f spec_l1Sum.f impl_checksum.f
  rw [hr, hr']
  by_cases h : (s.size : Int) > 1048576
  · rw [if_pos h]
  · rw [if_neg h]
    by_cases h2 : (s.size : Int) > 4000
    · simp [h2]
    · simp [h2]

end Go.Proofs.Ytdijofhhdmlinaa.Pure
