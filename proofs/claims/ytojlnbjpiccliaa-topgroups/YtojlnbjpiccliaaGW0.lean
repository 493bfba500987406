import Derived.Test.YtojlnbjpiccliaaGM
import Derived.Test.YtojlnbjpiccliaaProg
import Derived.KernelRfl
namespace Go.X
open Go Go.RowKit Go.Proofs
theorem ar_64 : arrOf Try.prog 64 = some (10, 5) := by kernel_rfl
theorem fo_115_0 : fieldOff Try.prog 115 0 = some 0 := by kernel_rfl
theorem fo_63_0 : fieldOff Try.prog 63 0 = some 0 := by kernel_rfl
theorem sc_3 : scal Try.prog 3 = true := by kernel_rfl
theorem sc_48 : scal Try.prog 48 = true := by kernel_rfl
theorem mixed : Try.prog.follows .mixedOrders = true := by kernel_rfl
def pathR (p o b1 b2 : Nat) (n : Int) (par : Int → Int) : List (Addr × Value) :=
  (⟨b1, 0, none⟩, .int .i64 n) :: (⟨b2, 0, none⟩, ptr p o 0) :: (List.range 10).map (fun k => (⟨p, o + (0 + 0 + k * 5 + 0), none⟩, .int .i64 (par (k : Int))))
theorem pathR_of {p o b1 b2 : Nat} {n : Int} {par : Int → Int} {s' : TG} (hp : s'.par = par) {H : List Ent} {w : World} (hg : Go.X.Good H w)
    (h1 : Has H (.cells b1 0 1 (cell1 (.int .i64 n)))) (h2 : Has H (.cells b2 0 1 (cell1 (ptr p o 0)))) (h3 : Has H (.cells p o 60 (encGt s'))) : ∀ y ∈ pathR p o b1 b2 n par, w.cell? y.1 = some y.2 := fun y hy => by
  simp only [pathR, List.mem_cons, List.mem_map, List.mem_range] at hy
  rcases hy with rfl | rfl | ⟨k, hk, rfl⟩
  · exact cell_of_holds (i := 0) (hg.1 _ h1.mem) (by omega)
  · exact cell_of_holds (i := 0) (hg.1 _ h2.mem) (by omega)
  · have h4 := cell_of_holds (hg.1 _ h3.mem) (encGt.ld_g_I_Parent s' (k : Int) (by omega)).1
    rw [(encGt.ld_g_I_Parent s' (k : Int) (by omega)).2, hp] at h4
    exact h4
theorem pathR_par {p o b1 b2 : Nat} {n : Int} {par : Int → Int} {w : World} (h : ∀ y ∈ pathR p o b1 b2 n par, w.cell? y.1 = some y.2) {z : Int} (h0 : 0 ≤ z ∧ z < 10) : w.cell? ⟨p, o + (0 + 0 + z.toNat * 5 + 0), none⟩ = some (.int .i64 (par z)) := by
  have := h (⟨p, o + (0 + 0 + z.toNat * 5 + 0), none⟩, .int .i64 (par (z.toNat : Int))) (by
    simp only [pathR, List.mem_cons, List.mem_map, List.mem_range]
    exact .inr (.inr ⟨z.toNat, by omega, rfl⟩))
  rw [show ((z.toNat : Nat) : Int) = z from by omega] at this
  exact this
set_option maxHeartbeats 1000000 in
theorem path_seq (p o b1 b2 : Nat) (n : Int) (par : Int → Int) (xs : List N10) (hway : IsWay par n (vals xs)) (w : World) (hR : ∀ y ∈ pathR p o b1 b2 n par, w.cell? y.1 = some y.2) :
    SeqStopsK Fence.wide 2 Try.prog 96 #[ptr b1 0 0, ptr b2 0 0] (fun x : N10 => #[.int .i64 x.1]) (KpR (pathR p o b1 b2 n par)) (· = xs) (· <+: xs) xs.length w := by
  intro l J Jx W hW hJ hJx hY h0
  have hR0 : ∀ y ∈ pathR p o b1 b2 n par, W.cell? y.1 = some y.2 := fun y hy => by
    rw [hW.cell (cell_lt (hR y hy))]; exact hR y hy
  have e : (#[.func (.yield l) #[] #[]] ++ #[ptr b1 0 0, ptr b2 0 0] : Array Value) = [.func (.yield l) #[] #[], ptr b1 0 0, ptr b2 0 0].toArray := rfl
  rw [e]
  refine callsIn_wide.2 (enter (M := fun w => J [] w ∧ ∀ y ∈ pathR p o b1 b2 n par, w.cell? y.1 = some y.2) Try.func96 rfl rfl ?_ ⟨h0, hR0⟩)
  refine XC.seq ?_
  refine XC.region ?_
  refine XO.v (V.loadCell (b := b1) (o := 0) (v := .int .i64 n) rfl (fun w hw => hw.2 (⟨b1, 0, none⟩, .int .i64 n) (by simp [pathR])) sc_3) rfl ?_
  refine XO.v (V.assign rfl) rfl ?_
  refine XO.nil ?_
  refine XE.next ?_
  refine XC.keep [(0, _), (2, _), (4, _)] (Sub.cons rfl (Sub.cons rfl (Sub.cons rfl (Sub.nil _)))) ?_
  refine XC.block ?_
  refine XC.loop (σ := List N10 × List N10 × Int) (fun x => x.2.1.length) (fun x => x.1 ++ x.2.1 = xs ∧ IsWay par x.2.2 (vals x.2.1)) (fun x => [(0, .func (.yield l) #[] #[]), (2, ptr b2 0 0), (4, .int .i64 x.2.2)]) (fun x w => J x.1 w ∧ ∀ y ∈ pathR p o b1 b2 n par, w.cell? y.1 = some y.2) ([], xs, n) ⟨rfl, hway⟩ (Sub.cons rfl (Sub.cons rfl (Sub.cons rfl (Sub.nil _)))) (fun _ hw => hw) ?_
  rintro ⟨pre, rest, q⟩ ⟨hx, hq⟩
  refine XC.seq ?_
  refine XC.seq ?_
  refine XC.region ?_
  refine XO.v (V.move rfl) rfl ?_
  refine XO.v (V.cmp rfl rfl rfl) rfl ?_
  refine XO.nil ?_
  refine XE.next ?_
  refine XC.condP rfl (fun hq0 => ?_) (fun hq0 => ?_)
  · have hq1 : q ≥ 0 := hq0
    match rest, hq with
    | [], hq => exact absurd hq (by show ¬ q < 0; omega)
    | x :: rest, hq =>
      obtain ⟨e1, e2, e3, e4⟩ := hq
      have e1' : x.1 = q := e1
      subst e1'
      refine XC.skip ?_
      refine XE.next ?_
      refine XC.keep [(0, _), (2, _), (4, _)] (Sub.cons rfl (Sub.cons rfl (Sub.cons rfl (Sub.nil _)))) ?_
      refine XC.seq ?_
      refine XC.block ?_
      refine XC.seq ?_
      refine XC.regionI ?_
      refine XI.v (V.move rfl) rfl ?_
      refine XI.v (V.move rfl) rfl ?_
      refine XI.yield (R := fun e w' => (e = .returned (.bool true) ∧ J (pre ++ [x]) w' ∧ ∀ y ∈ pathR p o b1 b2 n par, w'.cell? y.1 = some y.2) ∨ (e = .returned (.bool false) ∧ Jx (pre ++ [x]) w')) rfl rfl (fun w hw => YieldAt.weak (hY pre x w hw.1 (by rw [← hx]; simp)) (fun e w' h => ?_)) rfl (fun e w' h => ?_)
      · rcases h with ⟨h1, h2, h3⟩ | h
        · exact .inl ⟨h1, h2, fun y hy => h3 y hy (hw.2 y hy)⟩
        · exact .inr h
      · rcases h with ⟨rfl, h2⟩ | ⟨rfl, h2⟩
        · refine ⟨true, rfl, ?_⟩
          refine XI.v (V.not rfl) rfl ?_
          refine XI.nil ?_
          refine XE.next ?_
          refine XC.condF rfl rfl ?_
          refine XC.skip ?_
          refine XE.blockNormal ?_
          refine XE.next ?_
          refine XC.keep [(0, _), (2, _), (4, _)] (Sub.cons rfl (Sub.cons rfl (Sub.cons rfl (Sub.nil _)))) ?_
          refine XC.mono (M' := fun w' => J (pre ++ [x]) w' ∧ ∀ y ∈ pathR p o b1 b2 n par, w'.cell? y.1 = some y.2) (fun w' hw' => by
            rcases hw' with ⟨_, h⟩ | ⟨h, _⟩
            · exact h
            · simp at h) ?_
          refine XC.region ?_
          refine XO.v (V.loadCell (b := b2) (o := 0) (v := ptr p o 0) rfl (fun w hw => hw.2 (⟨b2, 0, none⟩, ptr p o 0) (by simp [pathR])) sc_48) rfl ?_
          refine XO.v (V.move rfl) rfl ?_
          refine XO.v (V.nilCheckP rfl) rfl ?_
          refine XO.v (V.fieldAddr rfl fo_115_0) rfl ?_
          refine XO.v (V.indexArr rfl rfl ar_64 ⟨e2, e3⟩) rfl ?_
          refine XO.v (V.fieldAddr rfl fo_63_0) rfl ?_
          refine XO.v (V.loadCell rfl (fun w hw => pathR_par hw.2 ⟨e2, e3⟩) sc_3) rfl ?_
          refine XO.v (V.assign rfl) rfl ?_
          refine XO.nil ?_
          refine XE.again (pre ++ [x], rest, par x.1) (by simp) ⟨by rw [← hx]; simp, e4⟩ (Sub.cons rfl (Sub.cons rfl (Sub.cons rfl (Sub.nil _)))) (fun _ hw => hw)
        · refine ⟨false, rfl, ?_⟩
          refine XI.v (V.not rfl) rfl ?_
          refine XI.nil ?_
          refine XE.next ?_
          refine XC.condT rfl rfl ?_
          refine XC.ret ?_
          refine XE.blockRet ?_
          refine XE.thenRet ?_
          refine XE.thenRet ?_
          refine XE.blockRet ?_
          refine XE.ret0 rfl (fun w' hw' => ⟨⟨_, rfl⟩, .inr ⟨pre ++ [x], ?_, ?_⟩⟩)
          · exact ⟨rest, by rw [← hx]; simp⟩
          · rcases hw' with ⟨h, _⟩ | ⟨_, h⟩
            · simp at h
            · exact h
  · refine XC.exit ?_
    refine XE.thenExit ?_
    refine XE.thenExit ?_
    refine XE.blockExit ?_
    refine XE.end0 rfl (fun w' hw' => ⟨⟨_, rfl⟩, .inl ⟨pre, ?_, hw'.1⟩⟩)
    match rest, hq with
    | [], _ => rw [← hx]; simp
    | x :: rest, hq =>
      have hq1 : ¬ q ≥ 0 := hq0
      exact absurd hq.2.1 hq1

end Go.X
