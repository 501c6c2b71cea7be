/-
  The word of a dictionary that takes most presses with a next key. Conditions: each lemma's own.
-/
import Derived.Test.YtclnjlnpconjmaaDoorPx3
import Derived.Test.YtclnjlnpconjmaaDoorPx5
import Derived.Test.YtclnjlnpconjmaaDoorPuPlace
namespace Go.Proofs.YtclnjlnpconjmaaDoor.Pu
open Go.RowKit Go.Proofs.YtclnjlnpconjmaaDoor.P Go.Proofs.YtclnjlnpconjmaaDoorW.PrintWords Go.Proofs.YtclnjlnpconjmaaDoorW.PrintLast Go.Proofs.YtclnjlnpconjmaaDoorW.PrintMore Go.Proofs.YtclnjlnpconjmaaDoor.Pick

def mostN (L : List ByteArray) : List ByteArray → ByteArray → Int → ByteArray × Int × Bool
  | [], b, m => (b, m, true)
  | x :: R, b, m => if nextN L x > m then mostN L R x (nextN L x) else mostN L R b m
theorem mem_listed {L : List ByteArray} (hd : dictB L = true) {x : ByteArray} (hx : x ∈ L) : listedB L x = true := by
  unfold listedB hasS
  rw [hd, Bool.true_and, List.any_eq_true]
  exact ⟨x, hx, decide_eq_true rfl⟩
theorem mostS_l0 (L : List ByteArray) (hd : dictB L = true) : ∀ (d i : Nat) (b : ByteArray) (m : Int), i + d = L.length → Ev (fun k => spec_MostPresses.l0 k L b m L L.length i) (mostN L (L.drop i) b m)
  | 0, i, b, m, hi => by
    obtain rfl : i = L.length := by omega
    rw [List.drop_length]
    refine ev_from 0 fun k _ => ?_
    simp only [spec_MostPresses.l0]
    rw [if_neg (by omega)]
    rfl
  | d + 1, i, b, m, hi => by
    have hl := dict_length hd
    obtain ⟨K0, e0⟩ := wdPresses_ev L _ (mem_listed hd (rds_mem L i (by omega)))
    obtain ⟨K1, ih1⟩ := mostS_l0 L hd d (i + 1) (rdOf ByteArray.empty L i) (nextN L (rdOf ByteArray.empty L i)) (by omega)
    obtain ⟨K2, ih2⟩ := mostS_l0 L hd d (i + 1) b m (by omega)
    rw [rds_drop L i (by omega), mostN]
    refine ev_from (K0 + K1 + K2) fun k hk => ?_
    have e0 := e0 k (by omega)
    have e1 := ih1 k (by omega)
    have e2 := ih2 k (by omega)
    rw [show ((i + 1 : Nat) : Int) = (i : Int) + 1 from rfl] at e1 e2
    dsimp only at e0 e1 e2
    simp only [spec_MostPresses.l0]
    rw [if_pos (by omega), if_pos (by omega), if_pos (by omega), e0, bsome, wr (by omega) (by omega), e1, e2]
    split <;> rfl
theorem mostI_l0 (L : List ByteArray) (hd : dictB L = true) : ∀ (d i : Nat) (b : ByteArray) (m : Int), i + d = L.length → Ev (fun k => impl_MostPresses.l0 k L b m L L.length i) (mostN L (L.drop i) b m)
  | 0, i, b, m, hi => by
    obtain rfl : i = L.length := by omega
    rw [List.drop_length]
    refine ev_from 0 fun k _ => ?_
    simp only [impl_MostPresses.l0]
    rw [if_neg (by omega)]
    rfl
  | d + 1, i, b, m, hi => by
    have hl := dict_length hd
    obtain ⟨K0, e0⟩ := withNext_ev L _ (mem_listed hd (rds_mem L i (by omega)))
    obtain ⟨K1, ih1⟩ := mostI_l0 L hd d (i + 1) (rdOf ByteArray.empty L i) (nextN L (rdOf ByteArray.empty L i)) (by omega)
    obtain ⟨K2, ih2⟩ := mostI_l0 L hd d (i + 1) b m (by omega)
    rw [rds_drop L i (by omega), mostN]
    refine ev_from (K0 + K1 + K2) fun k hk => ?_
    have e0 := e0 k (by omega)
    have e1 := ih1 k (by omega)
    have e2 := ih2 k (by omega)
    rw [show ((i + 1 : Nat) : Int) = (i : Int) + 1 from rfl] at e1 e2
    dsimp only at e0 e1 e2
    simp only [impl_MostPresses.l0]
    rw [if_pos (by omega), if_pos (by omega), if_pos (by omega), e0, bsome, wr (by omega) (by omega), e1, e2]
    split <;> rfl
theorem nextN_pos {L : List ByteArray} {x : ByteArray} (h : listedB L x = true) : nextN L x > 0 := by
  have h1 := placeS_mem x _ 0 (just_has h)
  have h2 := short_size (listed_short h).2
  unfold nextN
  omega
theorem most_start (L : List ByteArray) (hd : dictB L = true) (b : ByteArray) : mostN L L b (-1) = mostN L L b 0 := by
  have hl := dict_length hd
  match hL : L with
  | [] => simp at hl
  | x :: R =>
    have hp := nextN_pos (mem_listed hd (List.mem_cons_self (a := x) (l := R)))
    rw [mostN, mostN, if_pos (by omega), if_pos (by omega)]
def mostT (L : List ByteArray) : ByteArray × Int × Bool := if dictB L = true then mostN L L ⟨#[]⟩ 0 else (⟨#[]⟩, 0, false)
theorem mostS_ev (L : List ByteArray) (hl : L.length ≤ 1099511627776) (hL : ∀ x ∈ L, x.size ≤ 140737488351232) : Ev (fun k => spec_MostPresses.f k L) (mostT L) := by
  obtain ⟨K1, h1⟩ := wdGood_ev L hl hL
  unfold mostT
  cases hb : dictB L with
  | false =>
    refine ⟨K1, fun k hk => ?_⟩
    have e1 := h1 k (by omega)
    rw [hb] at e1
    dsimp only at e1 ⊢
    unfold spec_MostPresses.f
    rw [e1, bsome]
    rfl
  | true =>
    obtain ⟨K2, h2⟩ := mostS_l0 L hb L.length 0 ⟨#[]⟩ 0 (by omega)
    refine ⟨K1 + K2, fun k hk => ?_⟩
    have e1 := h1 k (by omega)
    have e2 := h2 k (by omega)
    rw [hb] at e1
    dsimp only at e1 e2 ⊢
    unfold spec_MostPresses.f
    rw [e1, bsome, if_pos rfl]
    exact e2
theorem mostI_ev (L : List ByteArray) (hl : L.length ≤ 1099511627776) (hL : ∀ x ∈ L, x.size ≤ 140737488351232) : Ev (fun k => impl_MostPresses.f k L) (mostT L) := by
  obtain ⟨K1, h1⟩ := isDict_ev L hl hL
  unfold mostT
  cases hb : dictB L with
  | false =>
    refine ⟨K1, fun k hk => ?_⟩
    have e1 := h1 k (by omega)
    rw [hb] at e1
    dsimp only at e1 ⊢
    unfold impl_MostPresses.f
    rw [e1, bsome]
    rfl
  | true =>
    obtain ⟨K2, h2⟩ := mostI_l0 L hb L.length 0 ⟨#[]⟩ (-1) (by omega)
    refine ⟨K1 + K2, fun k hk => ?_⟩
    have e1 := h1 k (by omega)
    have e2 := h2 k (by omega)
    rw [hb] at e1
    dsimp only at e1 e2 ⊢
    unfold impl_MostPresses.f
    rw [e1, bsome, if_pos rfl, ← most_start L hb]
    exact e2
end Go.Proofs.YtclnjlnpconjmaaDoor.Pu
