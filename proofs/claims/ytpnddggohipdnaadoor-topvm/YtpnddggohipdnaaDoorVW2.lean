import Derived.Test.YtpnddggohipdnaaDoorVW
import Derived.Test.YtpnddggohipdnaaDoorVK
import Derived.Test.YtpnddggohipdnaaDoorSFP
namespace Go.X
open Go Go.Proofs
set_option maxRecDepth 20000
set_option maxHeartbeats 4000000
theorem ag_77 : aggT Tryd.prog 77 = true := by kernel_rfl
theorem cl_57 : callable Tryd.prog 57 = true := by kernel_rfl
theorem rt_83_3 : rowT Tryd.prog 83 3 = true := by kernel_rfl
theorem sc_3 : scal Tryd.prog 3 = true := by kernel_rfl
theorem sz_77_2 : szOf Tryd.prog 77 = some 2 := by kernel_rfl
theorem v_cmp : CmpC Tryd.prog 59 encB cmpB := fun x y w => by
 refine enter (ps := [2, 3, 4]) (cs := []) Tryd.func59 rfl rfl ?_ (M := fun w' => w' = w) rfl
 refine gC (K := []) (Q0 := bodyPost _ _ _) ?_
 refine XO.boxW rfl rfl ?_
 refine XO.boxW rfl rfl ?_
 refine gO ?_
 refine oL ?_
 refine XO.l (V.loadW (v := .int .i64 ((x.f : Nat) : Int)) rfl (fun w' hw => by rw [hw]; exact boxW_at rfl) sc_3) rfl (gO ?_)
 refine oL ?_
 refine XO.l (V.loadW (v := .int .i64 ((y.f : Nat) : Int)) rfl (fun w' hw => by rw [hw]; exact boxW_at2 rfl) sc_3) rfl (gO ?_)
 refine sd (by have := x.f.isLt; have := y.f.isLt; omega) ?_
 exact XE.ret1 rfl rfl (fun w' hw => ⟨rfl, _, hw.trans (grow_two _ _ _)⟩)
theorem v_sort (p : Option Addr) (c : Nat) (l : List RG) (hl : ∀ r ∈ l, 0 ≤ r.fr ∧ r.fr ≤ 16) (hlt : l.length ≤ 100000) : Spec Tryd.prog 58 [.slice p l.length c, .func (.func 59) #[] #[]] [frow p c 83 3 l.length (rgC l)]
  (fun v H1 => v = .tuple #[] ∧ ∃ l' : List RG, l.Perm l' ∧ l'.Pairwise (fun x y => x.fr ≤ y.fr) ∧ H1 = [frow p c 83 3 l.length (rgC l')]) :=
  sort_regions trySort Tryd.isAgg83 Tryd.sizeOf83 59 (Go.Proofs.enters_of Tryd.func59 (by kernel_rfl) rfl) v_cmp p c 83 l hl hlt
theorem v_at1 (cn : Nat) (n : Int) (r : RG) (hr : 0 ≤ r.fr ∧ 0 ≤ r.n ∧ r.fr + r.n ≤ 100) : Spec Tryd.prog 57 [.agg r.arr, ptr cn 0 0]
 [.cells cn 0 1 (cell1 (.int .i64 n))]
 (fun v H1 => v = .bool (r.hasB n) ∧ H1 = [.cells cn 0 1 (cell1 (.int .i64 n))]) := by
  refine Spec.go 17 [1, 2, 3] [] Tryd.func57 rfl rfl rfl ?_
  intro W
  refine XO.box (m := 3) (C := rgB (r)) rfl rfl (rgB.box _) rfl ?_
  intro bx
  refine gO ?_
  refine ld (.there .here) (cell1.ld _) ?_
  refine ld .here (rgB.f _) ?_
  refine sp 8 rfl ?_ ?_ <;> intro h1
  · skip
    refine ld (.there .here) (cell1.ld _) ?_
    refine ld .here (rgB.f _) ?_
    refine ld .here (rgB.n _) ?_
    refine sd (by omega) ?_
    refine XE.ret1 rfl rfl (post_of (.cons (.there .here) .nil) rfl ?_)
    exact ⟨congrArg Value.bool (by rw [Bool.eq_iff_iff]; unfold RG.hasB; simp; omega), rfl⟩
  · skip
    refine XE.ret1 rfl rfl (post_of (.cons (.there .here) .nil) rfl ?_)
    exact ⟨congrArg Value.bool (by rw [Bool.eq_iff_iff]; unfold RG.hasB; simp; omega), rfl⟩
theorem v_ix (cn : Nat) (n : Int) (p : Option Addr) (c : Nat) (l : List RG) (hl : ∀ r ∈ l, 0 ≤ r.fr ∧ 0 < r.n ∧ r.fr + r.n ≤ 16) (hlen : l.length ≤ 100) : Spec Tryd.prog 56 [.slice p l.length c, .func (.func 57) #[] #[ptr cn 0 0]]
 [frow p c 83 3 l.length (rgC l), .cells cn 0 1 (cell1 (.int .i64 n))]
 (fun v H1 => (∃ k : Int, v = .int .i64 k ∧ atP l n k) ∧ H1 = [frow p c 83 3 l.length (rgC l), .cells cn 0 1 (cell1 (.int .i64 n))]) := by
  refine Spec.go 19 [0, 1, 4, 5, 7, 8, 9, 16] [] Tryd.func56 rfl rfl rfl ?_
  intro W
  refine lp (σ := Int) (fun i => (l.length - i).toNat) (fun i => (0 ≤ i ∧ i ≤ l.length) ∧ ∀ j : Int, 0 ≤ j → j < i → ¬ (rat l j).has n) (fun i => [(8, .int .i64 i), (0, .slice p l.length c), (1, .func (.func 57) #[] #[ptr cn 0 0]), (7, .int .i64 l.length)]) (fun i => XM W (foot [frow p c 83 3 l.length (rgC l), .cells cn 0 1 (cell1 (.int .i64 n))]) [frow p c 83 3 l.length (rgC l), .cells cn 0 1 (cell1 (.int .i64 n))]) (0) ?_ (S4 rfl rfl rfl rfl) (fun _ hw => XM.pick .h2 hw) ?_
  · skip
    exact ⟨by omega, fun j a b => by omega⟩
  intro i hi
  obtain ⟨hi, hno⟩ := hi
  refine gC ?_
  refine cd rfl ?_ ?_ <;> intro h1
  · skip
    refine XR.openRow .here (by omega) ?_
    intro g1 h2
    subst h2
    refine sd (by omega) ?_
    refine ldAF .here (rgC.agg (by omega)) ?_
    refine XO.callV (cs := [ptr cn 0 0]) rfl rfl (v_at1 _ n _ (by have := hl _ (rat_mem (l := l) (z := i) (by omega)); omega)) (.cons (.there .here) .nil) cl_57 rfl ?_
    rintro _ _ ⟨rfl, rfl⟩
    refine gO ?_
    refine cdB rfl ?_ ?_ <;> intro h3
    · try simp only [sb] at h3
      refine XE.ret1 rfl rfl (post_of (.cons (.there .here) .h1) rfl ?_)
      exact ⟨⟨i, rfl, .inr ⟨by omega, (RG.hasB_iff _ _).1 (by assumption)⟩⟩, rfl⟩
    · try simp only [sb] at h3
      refine sd (by omega) ?_
      refine ag (i + 1) ?_ ?_ (S4 rfl rfl rfl rfl) (fun _ hw => XM.pick (.cons (.there .here) .h1) hw)
      · skip
        (first | omega | (simp; done) | (simp; omega))
      · skip
        refine ⟨by omega, fun j a b => ?_⟩
        by_cases e : j = i
        · subst e; rw [← RG.hasB_iff]; simp_all
        · exact hno j a (by omega)
  · skip
    refine XE.ret1 rfl rfl (post_of .h2 rfl ?_)
    exact ⟨⟨-1, rfl, .inl ⟨rfl, fun r hr => by obtain ⟨z, hz, rfl⟩ := mem_rat hr; exact hno z hz.1 (by omega)⟩⟩, rfl⟩
theorem v_at (kb mb : Nat) (p : Option Addr) (c : Nat) (m : MS) (hm : m.Ok) (n : Int) : Spec Tryd.prog 46 [ptr mb 0 0, .int .i64 n]
 [.cells mb 0 34 (encN kb p (runs m.is_).length c m.fr m.own), frow p c 83 3 (runs m.is_).length (rgC (runs m.is_))]
 (fun v H1 => (∃ k : Int, v = .int .i64 k ∧ atP (runs m.is_) n k) ∧ H1 = [.cells mb 0 34 (encN kb p (runs m.is_).length c m.fr m.own), frow p c 83 3 (runs m.is_).length (rgC (runs m.is_))]) := by
  refine Spec.go 11 [0, 3, 4] [] Tryd.func46 rfl rfl rfl ?_
  intro W
  refine XO.box (m := 1) (C := cell1 (.int .i64 n)) rfl rfl (fun _ _ => rfl) rfl ?_
  intro cn
  refine gO ?_
  refine ld (.there .here) (encN.ld_r _ _ _ _ _ _) ?_
  refine XO.v (V.makeFunc1 rfl) rfl (gO ?_)
  refine ca (v_ix _ _ _ _ _ (runs_ok hm.f).b (by have := runs_len m.is_; omega)) (.cons (.t2 .here) .h1) ?_
  rintro _ _ ⟨⟨k, rfl, hk⟩, rfl⟩
  refine gO ?_
  refine XE.ret1 rfl rfl (post_of (.cons (.t2 .here) .h1) rfl ?_)
  exact ⟨⟨k, rfl, hk⟩, rfl⟩
theorem v_Clone (p : Option Addr) (c : Nat) (l : List RG) (hn : l.length ≤ 100) : Spec Tryd.prog 31 [.slice p l.length c]
 [frow p c 83 3 l.length (rgC l)]
 (fun v H1 => ∃ p1 c1, v = .slice p1 l.length c1 ∧ H1 = [frow p c 83 3 l.length (rgC l), frow p1 c1 83 3 l.length (rgC l)]) := by
  refine Spec.go 8 [0, 2, 4] [] Tryd.func31 rfl rfl rfl ?_
  intro W
  refine XO.v (V.sliceNil rfl Tryd.underlying69 rfl) rfl (gO ?_)
  refine cd rfl ?_ ?_ <;> intro h1
  · skip
    subst h1
    refine XR.rowNil .here ?_
    intro hn0
    refine XR.nilRow 83 3 ?_
    refine XE.ret1 rfl rfl (post_of (.cons (.there .here) .h1) rfl ?_)
    exact ⟨none, 0, by rw [hn0]; rfl, by rw [hn0]; rfl⟩
  · skip
    refine XR.rowAt .here h1 ?_
    intro g hg
    subst hg
    refine XO.buildRow (e := 83) (vs := #[]) (A := #[]) (sz := 3) rfl (fun _ => by kernel_rfl) rfl (by omega) rfl ?_
    intro b1
    refine gO ?_
    refine XO.appendRow (e := 83) rfl rfl Tryd.underlying69 rt_83_3 .here (.there .here) newsC_one (by omega) rfl ?_
    intro p1 c1
    refine gO ?_
    refine XE.ret1 rfl rfl (post_of (.cons (.there .here) .h1) rfl ?_)
    exact ⟨p1, c1, by simp only [Nat.zero_add]; rfl, by simp only [Nat.zero_add, List.nil_append]⟩
theorem v_Regions (kb mb : Nat) (p : Option Addr) (c : Nat) (m : MS) : Spec Tryd.prog 28 [ptr mb 0 0]
 [.cells mb 0 34 (encN kb p (runs m.is_).length c m.fr m.own), frow p c 83 3 (runs m.is_).length (rgC (runs m.is_))]
 (fun v H1 => ∃ p1 c1, v = .slice p1 (runs m.is_).length c1 ∧ H1 = [.cells mb 0 34 (encN kb p (runs m.is_).length c m.fr m.own), frow p c 83 3 (runs m.is_).length (rgC (runs m.is_)), frow p1 c1 83 3 (runs m.is_).length (rgC (runs m.is_))]) := by
  refine Spec.go 8 [0, 2] [] Tryd.func28 rfl rfl rfl ?_
  intro W
  refine ld .here (encN.ld_r _ _ _ _ _ _) ?_
  refine ca (v_Clone _ _ _ (by have := runs_len m.is_; omega)) (.cons (.there .here) .nil) ?_
  rintro _ _ ⟨p1, c1, rfl, rfl⟩
  refine gO ?_
  refine XE.ret1 rfl rfl (post_of (.cons (.t2 .here) .h2) rfl ?_)
  exact ⟨_, _, rfl, rfl⟩
theorem v_Resident (kb mb : Nat) (p : Option Addr) (c : Nat) (m : MS) (hm : m.Ok) : Spec Tryd.prog 27 [ptr mb 0 0]
 [.cells mb 0 34 (encN kb p (runs m.is_).length c m.fr m.own)]
 (fun v H1 => v = .int .i64 m.res ∧ H1 = [.cells mb 0 34 (encN kb p (runs m.is_).length c m.fr m.own)]) := by
  refine Spec.go 20 [0, 2, 3, 5, 9, 10, 11, 15] [] Tryd.func27 rfl rfl rfl ?_
  intro W
  refine ldA .here (encN_pages _ _ _ _ _ _) ?_
  refine lp (σ := Int) (fun i => (16 - i).toNat) (fun i => 0 ≤ i ∧ i ≤ 16) (fun i => [(10, .int .i64 i), (3, .int .i64 (resN m.fr i.toNat)), (9, .agg (pgA m.fr m.own))]) (fun i => XM W (foot [.cells mb 0 34 (encN kb p (runs m.is_).length c m.fr m.own)]) [.cells mb 0 34 (encN kb p (runs m.is_).length c m.fr m.own)]) (0) ?_ (S3 rfl rfl rfl) (fun _ hw => XM.pick .h1 hw) ?_
  · skip
    omega
  intro i hi
  have hlo := hm.lo i
  have hrs := resN_le m.fr i.toNat
  refine gC ?_
  refine cd rfl ?_ ?_ <;> intro h1
  · skip
    refine XO.v (V.indexAggN rfl rfl Tryd.underlying78 sz_77_2 ag_77 (by omega) (pgA_at (by omega))) rfl (gO ?_)
    refine XO.allocZ (z := .agg #[.int .i64 0, .bool false]) (m := 2) (C := pgB 0 false) (by kernel_rfl) rfl (pgB.box _ _) rfl ?_
    intro pb
    refine gO ?_
    refine stA .here (pgB.st _ _ _ _) rfl ⟨rfl, rfl⟩ ?_
    refine ld .here (pgB.f _ _) ?_
    refine cd rfl ?_ ?_ <;> intro h2
    · skip
      refine sd (by omega) ?_
      refine sd (by omega) ?_
      refine ag (i + 1) ?_ ?_ (S3 rfl (eqi (by rw [resN_next _ hi.1, if_pos (by omega)])) rfl) (fun _ hw => XM.pick (.cons (.there .here) .nil) hw)
      · skip
        (first | omega | (simp; done) | (simp; omega))
      · skip
        (first | omega | (simp; done) | (simp; omega))
    · skip
      refine sd (by omega) ?_
      refine ag (i + 1) ?_ ?_ (S3 rfl (eqi (by rw [resN_next _ hi.1, if_neg (by omega)]; omega)) rfl) (fun _ hw => XM.pick (.cons (.there .here) .nil) hw)
      · skip
        (first | omega | (simp; done) | (simp; omega))
      · skip
        (first | omega | (simp; done) | (simp; omega))
  · skip
    refine XE.ret1 rfl rfl (post_of .h1 rfl ?_)
    have e : i = 16 := by omega
    subst e
    exact ⟨rfl, rfl⟩
theorem v_Frame (kb mb : Nat) (p : Option Addr) (c : Nat) (m : MS) (n : Int) : Spec Tryd.prog 39 [ptr mb 0 0, .int .i64 n]
 [.cells mb 0 34 (encN kb p (runs m.is_).length c m.fr m.own)]
 (fun v H1 => v = .int .i64 (if n < 0 ∨ 15 < n then -1 else m.fr n - 1) ∧ H1 = [.cells mb 0 34 (encN kb p (runs m.is_).length c m.fr m.own)]) := by
  refine Spec.go 18 [0, 1, 4, 10] [] Tryd.func39 rfl rfl rfl ?_
  intro W
  refine sp 7 rfl ?_ ?_ <;> intro h1
  · skip
    refine XE.ret1 rfl rfl (post_of .h1 rfl ?_)
    first | (rw [if_neg (by omega)]; exact ⟨rfl, rfl⟩) | (rw [if_pos (by omega)]; exact ⟨rfl, rfl⟩)
  · skip
    refine cd rfl ?_ ?_ <;> intro h2
    · skip
      refine XE.ret1 rfl rfl (post_of .h1 rfl ?_)
      first | (rw [if_neg (by omega)]; exact ⟨rfl, rfl⟩) | (rw [if_pos (by omega)]; exact ⟨rfl, rfl⟩)
    · skip
      refine sd (by omega) ?_
      refine ld .here (encN.ld_p_I_frame _ _ _ _ _ _ _ (by omega)) ?_
      refine XE.ret1 rfl rfl (post_of .h1 rfl ?_)
      first | (rw [if_neg (by omega)]; exact ⟨rfl, rfl⟩) | (rw [if_pos (by omega)]; exact ⟨rfl, rfl⟩)
end Go.X
