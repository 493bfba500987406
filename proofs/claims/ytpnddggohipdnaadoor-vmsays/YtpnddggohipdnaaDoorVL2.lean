import Derived.Test.YtpnddggohipdnaaDoorVL
import Derived.Test.YtpnddggohipdnaaDoorVS
namespace Go.X
open Go Go.Proofs
set_option maxRecDepth 20000
set_option maxHeartbeats 4000000

set_option maxHeartbeats 8000000 in
theorem as_memory (kb mb rk rm : Nat) (p : Option Addr) (c : Nat) (m : MS) (hm : m.Ok) : Spec Tryd.prog 15 [ptr mb 0 0, ptr rm 0 0]
 [.cells mb 0 34 (encN kb p (runs m.is_).length c m.fr m.own), frow p c 83 3 (runs m.is_).length (rgC (runs m.is_)), .cells rm 0 49 (encRN rk m.is_ m.fr m.own)]
 (fun x H1 => x = .bool true ∧ H1 = [.cells mb 0 34 (encN kb p (runs m.is_).length c m.fr m.own), frow p c 83 3 (runs m.is_).length (rgC (runs m.is_)), .cells rm 0 49 (encRN rk m.is_ m.fr m.own)]) := by
  refine Spec.go 74 [0, 1, 4, 5, 6, 8, 16, 61] [(5, 1)] Tryd.func15 rfl rfl rfl ?_
  intro W
  refine lp (σ := Int) (fun n => (17 - n).toNat) (fun n => -1 ≤ n ∧ n ≤ 17) (fun n => [(5, .int .i64 n), (0, ptr mb 0 0), (1, ptr rm 0 0)]) (fun n => XM W (foot [.cells mb 0 34 (encN kb p (runs m.is_).length c m.fr m.own), frow p c 83 3 (runs m.is_).length (rgC (runs m.is_)), .cells rm 0 49 (encRN rk m.is_ m.fr m.own)]) [.cells mb 0 34 (encN kb p (runs m.is_).length c m.fr m.own), frow p c 83 3 (runs m.is_).length (rgC (runs m.is_)), .cells rm 0 49 (encRN rk m.is_ m.fr m.own)]) (-1) ?_ (S3 rfl rfl rfl) (fun _ hw => XM.pick .h3 hw) ?_
  · skip
    omega
  intro n hn
  have hlo := hm.lo n
  refine gC ?_
  refine cd rfl ?_ ?_ <;> intro h1
  · skip
    refine ct [(0, ptr mb 0 0), (1, ptr rm 0 0), (5, .int .i64 n), (6, .int .i64 (if n < 0 ∨ 15 < n then -1 else m.fr n - 1))] (XM W (foot [.cells mb 0 34 (encN kb p (runs m.is_).length c m.fr m.own), frow p c 83 3 (runs m.is_).length (rgC (runs m.is_)), .cells rm 0 49 (encRN rk m.is_ m.fr m.own)]) [.cells mb 0 34 (encN kb p (runs m.is_).length c m.fr m.own), frow p c 83 3 (runs m.is_).length (rgC (runs m.is_)), .cells rm 0 49 (encRN rk m.is_ m.fr m.own)]) ?_ ?_
    · skip
      refine sp 13 rfl ?_ ?_ <;> intro h2
      · skip
        refine cd rfl ?_ ?_ <;> intro h3
        · skip
          refine sd (by omega) ?_
          refine ld (.t2 .here) (encRN.ld_Frame_I _ _ _ _ _ (by omega)) ?_
          refine sd (by omega) ?_
          refine mt (S4 rfl rfl rfl (eqi (by first | rw [if_pos (by omega)] | rw [if_neg (by omega)]))) (fun _ hw => XM.pick .h3 hw)
        · skip
          refine mt (S4 rfl rfl rfl (eqi (by first | rw [if_pos (by omega)] | rw [if_neg (by omega)]))) (fun _ hw => XM.pick .h3 hw)
      · skip
        refine mt (S4 rfl rfl rfl (eqi (by first | rw [if_pos (by omega)] | rw [if_neg (by omega)]))) (fun _ hw => XM.pick .h3 hw)
    refine gC ?_
    refine ca (v_Frame _ _ _ _ m _) .h1 ?_
    rintro _ _ ⟨rfl, rfl⟩
    refine gO ?_
    refine spF 29 rfl (by simp) ?_
    refine sd (by omega) ?_
    refine ca (v_May _ _ _ _ _ hm _ false) .h2 ?_
    rintro _ _ ⟨rfl, rfl⟩
    refine gO ?_
    refine sd (by omega) ?_
    refine ca (r_May _ _ m _ false) (.cons (.t2 .here) .nil) ?_
    rintro _ _ ⟨rfl, rfl⟩
    refine gO ?_
    refine XO.v (V.boolEq rfl rfl Tryd.underlying4 rfl) rfl (gO ?_)
    refine spB 40 rfl ?_ ?_ <;> intro h5
    · try simp only [sb] at h5
      exfalso; simp at h5
    · try simp only [sb] at h5
      refine sd (by omega) ?_
      refine ca (v_May _ _ _ _ _ hm _ true) (.cons (.there .here) (.cons (.there .here) .nil)) ?_
      rintro _ _ ⟨rfl, rfl⟩
      refine gO ?_
      refine sd (by omega) ?_
      refine ca (r_May _ _ m _ true) (.cons (.t2 .here) .nil) ?_
      rintro _ _ ⟨rfl, rfl⟩
      refine gO ?_
      refine XO.v (V.boolEq rfl rfl Tryd.underlying4 rfl) rfl (gO ?_)
      refine spB 51 rfl ?_ ?_ <;> intro h6
      · try simp only [sb] at h6
        exfalso; simp at h6
      · try simp only [sb] at h6
        refine sd (by omega) ?_
        refine ca (v_Wants _ _ _ _ _ hm _) (.cons (.there .here) (.cons (.there .here) .nil)) ?_
        rintro _ _ ⟨rfl, rfl⟩
        refine gO ?_
        refine sd (by omega) ?_
        refine ca (r_Wants _ _ m _) (.cons (.t2 .here) .nil) ?_
        rintro _ _ ⟨rfl, rfl⟩
        refine gO ?_
        refine XO.v (V.boolEq rfl rfl Tryd.underlying4 rfl) rfl (gO ?_)
        refine cdB rfl ?_ ?_ <;> intro h7
        · try simp only [sb] at h7
          exfalso; simp at h7
        · try simp only [sb] at h7
          refine sd (by omega) ?_
          refine ag (n + 1) ?_ ?_ (S3 rfl rfl rfl) (fun _ hw => XM.pick (.cons (.there .here) (.cons (.there .here) .h1)) hw)
          · skip
            (first | omega | (simp; done) | (simp; omega))
          · skip
            (first | omega | (simp; done) | (simp; omega))
  · skip
    refine ca (v_Resident _ _ _ _ m hm) .h1 ?_
    rintro _ _ ⟨rfl, rfl⟩
    refine gO ?_
    refine ca (r_Resident _ _ m hm) (.cons (.t2 .here) .nil) ?_
    rintro _ _ ⟨rfl, rfl⟩
    refine gO ?_
    refine spT 67 rfl (rfl) ?_
    refine ca (v_Regions _ _ _ _ m) (.cons (.there .here) (.cons (.there .here) .nil)) ?_
    rintro _ _ ⟨p1, c1, rfl, rfl⟩
    refine gO ?_
    refine ca (r_Regions _ _ m hm) (.cons (.t3 .here) .nil) ?_
    rintro _ _ ⟨p2, c2, rfl, rfl⟩
    refine gO ?_
    refine ca (same_rg _ _ _ _ _ (by have := runs_len m.is_; omega)) (.cons (.t4 .here) .h1) ?_
    rintro _ _ ⟨rfl, rfl⟩
    refine gO ?_
    refine XE.ret1 rfl rfl (post_of (.cons (.t3 .here) (.cons (.t3 .here) (.cons (.t2 .here) .nil))) rfl ?_)
    exact ⟨rfl, rfl⟩
end Go.X
