/- How many passengers a rate's table means: reckoned for each rate. -/
namespace Go.Proofs.Ytkgkilogjodccaa.FairP
def all (r : Nat) : Nat → Nat → Nat → Nat → Nat
  | 0, _, _, s => s
  | f + 1, k, w, s => match w with
    | 0 => s
    | w' + 1 => all r f (k + 1) ((w' + 1) * r / (1000 * (k + 1))) (s + (w' + 1))
def means (r T : Nat) : Nat → Nat → Nat → Nat → Nat → Nat
  | 0, _, _, _, a => a
  | f + 1, k, w, s, a => match w with
    | 0 => a
    | w' + 1 => means r T f (k + 1) ((w' + 1) * r / (1000 * (k + 1))) (s + (w' + 1)) (a + (4294967296 - (s + (w' + 1)) * 4294967296 / T))
def fair (r : Nat) : Bool :=
  let a := 1000 * means r (all r 64 0 67108864 0) 64 0 67108864 0 0
  let b := r * 4294967296
  Nat.ble a (b + 4294967296) && Nat.ble b (a + 4294967296)
def fairs : Nat → Nat → Bool
  | _, 0 => true
  | r, n + 1 => fair r && fairs (r + 1) n
set_option maxRecDepth 100000 in
theorem fair_a : fairs 0 4001 = true := by decide +kernel
theorem fairs_at : ∀ (n r x : Nat), fairs r n = true → r ≤ x → x < r + n → fair x = true
  | 0, r, x, _, h1, h2 => by omega
  | n + 1, r, x, h, h1, h2 => by
    simp only [fairs, Bool.and_eq_true] at h
    rcases Nat.eq_or_lt_of_le h1 with h3 | h3
    · rw [← h3]; exact h.1
    · exact fairs_at n (r + 1) x h.2 (by omega) (by omega)
end Go.Proofs.Ytkgkilogjodccaa.FairP
