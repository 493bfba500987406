import Derived.Test.YtpnddggohipdnaaDoorVP
import Derived.Test.YtpnddggohipdnaaDoorXSort
namespace Go.X
open Go
set_option maxRecDepth 20000
set_option maxHeartbeats 4000000
/-! ### regions, sorted -/
structure RB where
  f : Fin 17
  n : Int
  w : Bool
instance : Inhabited RB := ⟨⟨0, 0, false⟩⟩
def RB.rg (x : RB) : RG := ⟨((x.f : Nat) : Int), x.n, x.w⟩
def RG.rb (r : RG) : RB := ⟨⟨r.fr.toNat % 17, Nat.mod_lt _ (by omega)⟩, r.n, r.w⟩
theorem RG.rb_rg {r : RG} (h : 0 ≤ r.fr ∧ r.fr ≤ 16) : r.rb.rg = r := by
  cases r with
  | mk f n w =>
    simp only [RG.rb, RB.rg, RG.mk.injEq, and_true]
    simp only at h
    have : f.toNat % 17 = f.toNat := Nat.mod_eq_of_lt (by omega)
    simp only [this]; omega
def encB (x : RB) : List Value := [.int .i64 ((x.f : Nat) : Int), .int .i64 x.n, .bool x.w]
def cmpB (x y : RB) : Int := ((x.f : Nat) : Int) - ((y.f : Nat) : Int)
theorem cmpB_lt (x y : RB) : Go.Proofs.ltOf cmpB x y = decide ((x.f : Nat) < (y.f : Nat)) := by
  unfold Go.Proofs.ltOf cmpB
  congr 1
  apply propext
  omega
theorem cmpB_swo : Sort.SWO (Go.Proofs.ltOf cmpB) where
  irrefl x := by rw [cmpB_lt]; simp
  trans x y z h1 h2 := by rw [cmpB_lt] at *; simp only [decide_eq_true_eq] at *; omega
  ntrans x y z h1 h2 := by rw [cmpB_lt] at *; simp only [decide_eq_false_iff_not] at *; omega
theorem encB_len (x : RB) : (encB x).length = 3 := rfl
theorem encB_one (x : RB) : ∀ v ∈ encB x, v.oneCell' = true := fun v hv => by
  simp [encB] at hv
  rcases hv with rfl | rfl | rfl <;> rfl
theorem encB_arr (x : RB) : (encB x).toArray = x.rg.arr := rfl
theorem flat_rg (d : Array RB) : (Sort.flatK encB 3 d).toList = newsOf (rgC (d.toList.map RB.rg)) (d.size * 3) := by
  unfold Sort.flatK newsOf
  rw [Array.toList_map, Array.toList_range]
  apply List.map_congr_left
  intro t ht
  have ht2 : t < d.size * 3 := by simpa using ht
  have e : (d.toList.map RB.rg).getD (t / 3) RG.nil = (d[t / 3]!).rg := by
    have : t / 3 < d.size := by omega
    simp [this]
  unfold rgC
  rw [e]
  have h : t % 3 = 0 ∨ t % 3 = 1 ∨ t % 3 = 2 := by omega
  rcases h with h | h | h <;> rw [h] <;> rfl
theorem sort_regions {P : Program} {ρ : Shelf.Ren} (L : Go.Proofs.SlLaysF0.n6 P ρ) (aE : ∀ w, (isAgg (ρ.t 24)).run P w = .ok true w) (zE : ∀ w, (Go.sizeOf (ρ.t 24)).run P w = .ok 3 w) (gcl : Nat) (eg : ∀ args w, (callFunc gcl args).run P w = .ok (.enter gcl args) w)
    (hc : CmpC P gcl encB cmpB) (p : Option Addr) (c : Nat) (e : TypeId) (l : List RG) (hl : ∀ r ∈ l, 0 ≤ r.fr ∧ r.fr ≤ 16) (hlt : l.length ≤ 100000) :
    Spec P (ρ.f 6) [.slice p l.length c, .func (.func gcl) #[] #[]] [frow p c e 3 l.length (rgC l)]
      (fun v H1 => v = .tuple #[] ∧ ∃ l' : List RG, l.Perm l' ∧ l'.Pairwise (fun x y => x.fr ≤ y.fr) ∧ H1 = [frow p c e 3 l.length (rgC l')]) := by
  have hmap : ((l.map RG.rb).map RB.rg) = l := by
    rw [List.map_map]
    conv => rhs; rw [← List.map_id l]
    apply List.map_congr_left
    intro r hr
    exact RG.rb_rg (hl r hr)
  have h := sort_row L 3 aE zE encB encB_len encB_one cmpB cmpB_swo gcl eg hc p l.length c e (l.map RG.rb).toArray (by simp) (by omega)
  rw [flat_rg] at h
  simp only [List.toList_toArray, hmap, List.size_toArray, List.length_map] at h
  intro w hw
  refine (h w hw).mono ?_
  rintro ee w' ⟨v, H', he, ⟨hv, d', hp, hs, hH⟩, h3, h4⟩
  have hsz : d'.size = l.length := by rw [hp.1]; simp
  have hpm : d'.toList.Perm (l.map RG.rb) := by
    have h2 := hp.2.2
    have e1 : d'.extract 0 l.length = d' := by rw [← hsz]; exact Array.extract_size
    have e2 : (l.map RG.rb).toArray.extract 0 l.length = (l.map RG.rb).toArray := by
      have : l.length = (l.map RG.rb).toArray.size := by simp
      rw [this]; exact Array.extract_size
    rw [e1, e2] at h2
    simpa using h2
  refine ⟨v, H', he, ⟨hv, d'.toList.map RB.rg, ?_, ?_, ?_⟩, h3, h4⟩
  · have := hpm.map RB.rg
    rw [hmap] at this
    exact this.symm
  · rw [List.pairwise_map, List.pairwise_iff_getElem]
    intro i j hi hj hij
    have hj' : j < d'.size := by simpa using hj
    have hi' : i < d'.size := by omega
    have := hs i j (Nat.zero_le _) hij (by omega)
    rw [cmpB_lt] at this
    simp only [decide_eq_false_iff_not] at this
    simp only [hi', hj', getElem!_pos] at this
    simp only [Array.getElem_toList, RB.rg]
    omega
  · rw [hH, flat_rg, hsz]

end Go.X
