/- The law TractStraight of the given program returns true for any five numbers, and leaves all as they were. No condition. -/
import Derived.Test.YtpielcbpfbajlaaP6
import Derived.Test.YtpielcbpfbajlaaProg
import Derived.Test.YtpielcbpfbajlaaRows
set_option linter.unusedVariables false
set_option maxRecDepth 20000
set_option maxHeartbeats 4000000
namespace Go.Proofs.Ytpielcbpfbajlaa
open Go Go.Ab Go.Proofs
def an9 : An := { imm := [15], jn := [(2, [0, 1, 2, 3, 4, 33]), (8, [0, 2, 4, 11]), (11, [0, 2, 4, 13, 14]), (12, [0, 2, 4, 13, 63]), (14, [0, 2, 4, 13, 15, 16]), (16, [0, 2, 4, 17, 94]), (22, [0, 2, 4, 17])], lp := [(5, [0, 1, 2, 4, 11, 12]), (18, [0, 2, 4, 17, 19])], loud := [], ord := [] }
def vc9 (C : Cb) (a0 a1 a2 a3 a4 : V) (H : Hp) (R : List V → Hp → Prop) : Prop :=
 Jn (fun (l1 : List V) (H2 : Hp) =>
 aCond (l1.getD 5 .junk).nod (
 C.callE 17 [] H2 fun (v4 : V) (H5 : Hp) =>
 R [v4] H5) (
 C.aBd [(V.arr [] .full), (V.arr [] .full), (I 0), (I 0), (I 0), (I 0)] [(4, 1, (l1.getD 2 .junk).nod.nod.nod), (3, 1, (l1.getD 3 .junk).nod.nod.nod)] fun (v6 : V) =>
 C.aBx false 6 (V.agg [(V.arr [] .full), (V.arr [] .full), (I 0), (I 0), (I 0), (I 0)]) H2 fun (v7 : V) (H8 : Hp) =>
 C.aSt 6 v7.nod v6 H8 fun (v9 : V) (H10 : Hp) =>
 Jn (fun (l11 : List V) (H12 : Hp) =>
 C.aLd 6 true false (l11.getD 3 .junk).nod H12 fun (v14 : V) (H15 : Hp) =>
 C.callE 19 [v14.nod] H15 fun (v16 : V) (H17 : Hp) =>
 C.aUn .not v16.nod fun (v18 : V) =>
 aCond v18.nod (
 C.callE 17 [] H17 fun (v19 : V) (H20 : Hp) =>
 R [v19] H20) (
 Jn (fun (l21 : List V) (H22 : Hp) =>
 Jn (fun (l24 : List V) (H25 : Hp) =>
 aCond (l24.getD 4 .junk).nod (
 R [(B false)] H25) (
 Jn (fun (l27 : List V) (H28 : Hp) =>
 C.callE 39 [(l27.getD 3 .junk).nod.nod, (l27.getD 0 .junk).nod.nod] H28 fun (v30 : V) (H31 : Hp) =>
 C.aExt 0 v30.nod.nod fun (v32 : V) =>
 C.aExt 1 v30.nod.nod fun (v33 : V) =>
 Jn (fun (l34 : List V) (H35 : Hp) =>
 aCond (l34.getD 4 .junk).nod (
 R [(B false)] H35) (
 Jn (fun (l37 : List V) (H38 : Hp) =>
 C.aBin (Try.prog.underlying 3) .sub (l37.getD 0 .junk).nod.nod (I 1) fun (v40 : V) =>
 C.aIx 2 (l37.getD 3 .junk).nod.nod v40.nod fun (v41 : V) =>
 C.aFA 0 1 false v41.nod fun (v42 : V) =>
 C.aLd 1 false false v42.nod H38 fun (v43 : V) (H44 : Hp) =>
 C.aBin (Try.prog.underlying 3) .mul (l37.getD 1 .junk).nod.nod (l37.getD 2 .junk).nod.nod fun (v45 : V) =>
 C.aBin (Try.prog.underlying 3) .quo v45.nod (I 100) fun (v46 : V) =>
 C.aBin (Try.prog.underlying 3) .sub (l37.getD 2 .junk).nod.nod v46.nod fun (v47 : V) =>
 C.aBin (Try.prog.underlying 3) .eql v43.nod v47.nod fun (v48 : V) =>
 Jv (fun (v49 : V) (H50 : Hp) =>
 Jv (fun (v58 : V) (H59 : Hp) =>
 R [v58] H59)
 (fun (R60 : V → Hp → Prop) =>
 aG v49.nod true (
 C.callE 17 [] H50 fun (v61 : V) (H62 : Hp) =>
 R60 v61.nod H62) (
 R60 (B false) H50)))
 (fun (R51 : V → Hp → Prop) =>
 aG v48.nod true (
 C.aBin (Try.prog.underlying 3) .sub (l37.getD 0 .junk).nod.nod (I 1) fun (v52 : V) =>
 C.aIx 2 (l37.getD 3 .junk).nod.nod v52.nod fun (v53 : V) =>
 C.aFA 1 1 false v53.nod fun (v54 : V) =>
 C.aLd 1 false false v54.nod H44 fun (v55 : V) (H56 : Hp) =>
 C.aBin (Try.prog.underlying 3) .eql v55.nod (I 0) fun (v57 : V) =>
 R51 v57.nod H56) (
 R51 (B false) H44)))
 (fun (R39 : List V → Hp → Prop) =>
 LoopA (fun (l63 : List V) (H64 : Hp) (K65 : List V → Hp → Prop) =>
 C.aBin (Try.prog.underlying 3) .sub (l63.getD 0 .junk).nod.nod (I 1) fun (v66 : V) =>
 C.aBin (Try.prog.underlying 3) .lss (l63.getD 4 .junk).nod.nod v66.nod fun (v67 : V) =>
 aCond v67.nod (
 C.aIx 2 (l63.getD 3 .junk).nod.nod (l63.getD 4 .junk).nod.nod fun (v68 : V) =>
 C.aLd 2 true false v68.nod H64 fun (v69 : V) (H70 : Hp) =>
 C.aBd [(I 0), (I 0)] [] fun (v71 : V) =>
 C.aEqS 48 .neq v69.nod v71.nod fun (v72 : V) =>
 aCond v72.nod (
 R [(B false)] H70) (
 C.aBin (Try.prog.underlying 3) .add (l63.getD 4 .junk).nod.nod (I 1) fun (v73 : V) =>
 K65 [(l63.getD 0 .junk), (l63.getD 1 .junk), (l63.getD 2 .junk), (l63.getD 3 .junk), v73] H70)) (
 R39 [(l63.getD 0 .junk), (l63.getD 1 .junk), (l63.getD 2 .junk), (l63.getD 3 .junk)] H64))
 [(l34.getD 0 .junk), (l34.getD 1 .junk), (l34.getD 2 .junk), (l34.getD 3 .junk), (I 0)] H35)))
 (fun (R36 : List V → Hp → Prop) =>
 C.aBin (Try.prog.underlying 27) .neq (l27.getD 5 .junk).nod.nod (I 0) fun (v74 : V) =>
 Jv (fun (v75 : V) (H76 : Hp) =>
 Jv (fun (v79 : V) (H80 : Hp) =>
 Jv (fun (v86 : V) (H87 : Hp) =>
 R36 [(l27.getD 0 .junk), (l27.getD 1 .junk), (l27.getD 2 .junk), v32, v86] H87)
 (fun (R88 : V → Hp → Prop) =>
 aG v79.nod false (
 C.aLen v32.nod.nod fun (v89 : V) =>
 C.aBin (Try.prog.underlying 3) .neq v89.nod (l27.getD 0 .junk).nod.nod fun (v90 : V) =>
 R88 v90.nod H80) (
 R88 (B true) H80)))
 (fun (R81 : V → Hp → Prop) =>
 aG v75.nod false (
 C.aLd 2 true false (l27.getD 4 .junk).nod H76 fun (v82 : V) (H83 : Hp) =>
 C.aBd [(I 0), (I 0)] [] fun (v84 : V) =>
 C.aEqS 48 .neq v82.nod v84.nod fun (v85 : V) =>
 R81 v85.nod H83) (
 R81 (B true) H76)))
 (fun (R77 : V → Hp → Prop) =>
 aG v74.nod false (
 C.aBin (Try.prog.underlying 27) .neq v33.nod.nod (I 0) fun (v78 : V) =>
 R77 v78.nod H31) (
 R77 (B true) H31))))
 (fun (R29 : List V → Hp → Prop) =>
 C.aBd [(I 0), (I 0)] [(1, 1, (l24.getD 2 .junk).nod.nod.nod)] fun (v91 : V) =>
 C.aBS 2 1 (V.agg [(I 0), (I 0)]) [(0, v91.nod)] fun (v92 : V) =>
 C.callE 26 [(l24.getD 3 .junk).nod.nod, v92.nod] H25 fun (v93 : V) (H94 : Hp) =>
 C.aExt 0 v93.nod.nod fun (v95 : V) =>
 C.aExt 1 v93.nod.nod fun (v96 : V) =>
 C.aBx true 2 v95.nod H94 fun (v97 : V) (H98 : Hp) =>
 R29 [(l24.getD 0 .junk), (l24.getD 1 .junk), (l24.getD 2 .junk), (l24.getD 3 .junk), v97, v96] H98)))
 (fun (R26 : List V → Hp → Prop) =>
 C.aBin (Try.prog.underlying 27) .neq (l21.getD 4 .junk).nod.nod (I 0) fun (v99 : V) =>
 Jv (fun (v100 : V) (H101 : Hp) =>
 R26 [(l21.getD 0 .junk), (l21.getD 1 .junk), (l21.getD 2 .junk), (l21.getD 3 .junk), v100] H101)
 (fun (R102 : V → Hp → Prop) =>
 aG v99.nod false (
 C.aNilP (Try.prog.underlying 41) .eql (l21.getD 3 .junk).nod.nod fun (v103 : V) =>
 R102 v103.nod H22) (
 R102 (B true) H22))))
 (fun (R23 : List V → Hp → Prop) =>
 C.aLd 6 true false (l11.getD 3 .junk).nod H17 fun (v104 : V) (H105 : Hp) =>
 C.callE 25 [v104.nod] H105 fun (v106 : V) (H107 : Hp) =>
 C.aExt 0 v106.nod.nod fun (v108 : V) =>
 C.aExt 1 v106.nod.nod fun (v109 : V) =>
 R23 [(l11.getD 0 .junk), (l11.getD 1 .junk), (l11.getD 2 .junk), v108, v109] H107)))
 (fun (R13 : List V → Hp → Prop) =>
 LoopA (fun (l110 : List V) (H111 : Hp) (K112 : List V → Hp → Prop) =>
 C.aBin (Try.prog.underlying 3) .lss (l110.getD 5 .junk).nod.nod (l110.getD 0 .junk).nod.nod fun (v113 : V) =>
 aCond v113.nod (
 C.aFA 0 1 false (l110.getD 4 .junk).nod fun (v114 : V) =>
 C.aLd 1 false true v114.nod H111 fun (v115 : V) (H116 : Hp) =>
 C.aBS 1 1 (I 0) [(0, (l110.getD 1 .junk).nod.nod)] fun (v117 : V) =>
 C.aApp 1 8 v115 v117.nod fun (v118 : V) =>
 C.aFA 0 1 false (l110.getD 4 .junk).nod fun (v119 : V) =>
 C.aSt 1 v119.nod v118 H116 fun (v120 : V) (H121 : Hp) =>
 C.aBin (Try.prog.underlying 3) .add (l110.getD 5 .junk).nod.nod (I 1) fun (v122 : V) =>
 K112 [(l110.getD 0 .junk), (l110.getD 1 .junk), (l110.getD 2 .junk), (l110.getD 3 .junk), (l110.getD 4 .junk), v122] H121) (
 R13 [(l110.getD 0 .junk), (l110.getD 2 .junk), (l110.getD 3 .junk), (l110.getD 4 .junk)] H111))
 [(l1.getD 0 .junk), (l1.getD 1 .junk), (l1.getD 2 .junk), (l1.getD 4 .junk), v7, (I 0)] H10)))
 (fun (R3 : List V → Hp → Prop) =>
 C.aBin (Try.prog.underlying 3) .lss a0.nod.nod (I 1) fun (v123 : V) =>
 Jv (fun (v124 : V) (H125 : Hp) =>
 Jv (fun (v128 : V) (H129 : Hp) =>
 Jv (fun (v132 : V) (H133 : Hp) =>
 R3 [a0, a1, a2, a3, a4, v132] H133)
 (fun (R134 : V → Hp → Prop) =>
 aG v128.nod false (
 C.aBin (Try.prog.underlying 3) .gtr a4.nod.nod (I 500) fun (v135 : V) =>
 R134 v135.nod H129) (
 R134 (B true) H129)))
 (fun (R130 : V → Hp → Prop) =>
 aG v124.nod false (
 C.aBin (Try.prog.underlying 3) .lss a4.nod.nod (I (-500)) fun (v131 : V) =>
 R130 v131.nod H125) (
 R130 (B true) H125)))
 (fun (R126 : V → Hp → Prop) =>
 aG v123.nod false (
 C.aBin (Try.prog.underlying 3) .gtr a0.nod.nod (I 24) fun (v127 : V) =>
 R126 v127.nod H) (
 R126 (B true) H)))
theorem wf9 : (Nat.ble 5 Try.f9.ntmps && wfC an9 Try.f9.ntmps (Try.f9.body.getD .skip)) = true := by kernel_rfl
theorem tie9 (C : Cb) (a0 a1 a2 a3 a4 : V) (H : Hp) (R : List V → Hp → Prop) : wpG Try.prog C an9 (Try.f9.body.getD .skip) (argF [a0, a1, a2, a3, a4]) H (retG Try.prog C Try.f9 R) (fun _ _ _ => False) (retG Try.prog C Try.f9 R) = vc9 C a0 a1 a2 a3 a4 H R := by kernel_rfl
theorem mk9 (a0 a1 a2 a3 a4 : V) {H : Hp} {v : V} {H1 : Hp} (hd : v.Nd) (hn : H.length ≤ H1.length) (hb : H1 = H ∨ ∀ (b : Nat) (blk : Blk), H1[b]? = some blk → H[b]? = some blk ∨ BelB H1.length blk) (h : vc9 (real Try.prog) a0 a1 a2 a3 a4 H (retF v H1)) : Ret Try.prog 9 [a0, a1, a2, a3, a4] H v H1 :=
  ret_mk (an := an9) hm Try.call9 Try.func9 rfl wf9 hd hn hb (Eq.mpr (tie9 (real Try.prog) a0 a1 a2 a3 a4 H (retF v H1)) h)
theorem mkE9 (a0 a1 a2 a3 a4 : V) {H : Hp} {Q : V → Hp → Prop} (h : vc9 (real Try.prog) a0 a1 a2 a3 a4 H (retW Q)) : RetE Try.prog 9 [a0, a1, a2, a3, a4] H Q :=
  retE_mk (an := an9) hm Try.call9 Try.func9 rfl wf9 (Eq.mpr (tie9 (real Try.prog) a0 a1 a2 a3 a4 H (retW Q)) h)
theorem mko9 (a0 a1 a2 a3 a4 : V) {H : Hp} {xs : List V} {H1 : Hp} (hn : H.length ≤ H1.length) (hb : H1 = H ∨ ∀ (b : Nat) (blk : Blk), H1[b]? = some blk → H[b]? = some blk ∨ BelB H1.length blk) (h : vc9 (real Try.prog) a0 a1 a2 a3 a4 H (retO xs H1)) : Ret Try.prog 9 [a0, a1, a2, a3, a4] H (.arr xs .own) H1 :=
  ret_mko (an := an9) (t := 10) hm Try.call9 Try.func9 rfl wf9 rfl hn hb (Eq.mpr (tie9 (real Try.prog) a0 a1 a2 a3 a4 H (retO xs H1)) h)
end Go.Proofs.Ytpielcbpfbajlaa


set_option linter.unusedVariables false
set_option linter.unusedSimpArgs false
set_option linter.unnecessarySimpa false
set_option maxRecDepth 20000
set_option maxHeartbeats 2000000
namespace Go.Proofs.Ytpielcbpfbajlaa
open Go Go.Ab Go.Proofs
attribute [local congr] g_bin g_nilS g_nilP g_un g_ext g_bx g_fa g_ld g_st g_ix g_ixA g_slc g_mk g_bs g_bd g_nc g_cv g_len g_lenT g_app g_appB g_cpy g_mm g_call g_callG g_calm g_calmG g_range g_res g_pick g_cond g_loop g_Jv g_eqS g_eqP g_fd g_ixT g_ta g_lkp g_upd g_mkM g_appS g_inv g_callE g_callEG g_invE g_zr
theorem call_wkC {f : Nat} {cs cs' : List V} {H H' : Hp} {v : V} {K : V → Hp → Prop} (h : Ret Try.prog f [.agg cs'] H v H') (k : WkC cs cs') (hd : (V.agg cs').Nd) (hk : K v H') : CallE Try.prog f [.agg cs] H K := by
  obtain ⟨Q, hE, q⟩ := CallE_of (P := Try.prog) (K := fun v' H'' => v' = v ∧ H'' = H') ⟨v, H', h, rfl, rfl⟩
  exact callE_wkC hE k hd fun v' H'' hq => by
    obtain ⟨rfl, rfl⟩ := q _ _ hq
    exact hk
namespace TS
theorem fold_jnt (S : TS) (h : Int × Int) (l : List Pl) (hl : ∀ p, p ∈ l → ∃ fr to, p = .jnt fr to) : l.foldl S.mH h = h := by
  induction l with
  | nil => rfl
  | cons p l ih =>
    obtain ⟨fr, to, rfl⟩ := hl p (by simp)
    rw [List.foldl_cons]
    exact ih fun p hp => hl p (by simp [hp])
def lipO (S : TS) : Int := S.W.getD ((S.A.length - 1) * 2) 0 + (-S.l * S.W.getD ((S.A.length - 1) * 2) 0).tdiv 100
def nosO (S : TS) : Int := if S.D = [] then 0 else S.W.getD ((S.N - 1) * 2) 0 + (-S.n * S.W.getD ((S.N - 1) * 2) 0).tdiv 100
theorem stepH_eq (S : TS) : S.stepH = (S.lipO, S.nosO) := by
  unfold stepH pls
  rw [List.foldl_append, List.foldl_append, List.foldl_append]
  rw [fold_jnt S _ ((List.range (S.A.length - 1)).map _) fun p hp => by obtain ⟨i, -, rfl⟩ := List.mem_map.1 hp; exact ⟨_, _, rfl⟩]
  rw [fold_jnt S _ ((List.range (S.D.length - 1)).map _) fun p hp => by obtain ⟨i, -, rfl⟩ := List.mem_map.1 hp; exact ⟨_, _, rfl⟩]
  unfold nosO
  by_cases hD : S.D = []
  · rw [if_pos hD, if_pos hD]; rfl
  · rw [if_neg hD, if_neg hD]; rfl
structure At (S : TS) (a x g l : Int) (n k : Nat) : Prop where
  A : S.A = List.replicate n a
  D : S.D = []
  g : S.g = g
  l : S.l = l
  w : ∀ s, s < n → S.W.getD (s * 2) 0 = (if s = k then x else 0) ∧ S.W.getD (s * 2 + 1) 0 = 0
theorem sc2 {a x y : Int} (ha : 1 ≤ a) : scO [a, a] [x, y] 0 = y ∧ scO [a, a] [x, y] 1 = x := by
  have hA : scA [a, a] = 2 * a := by simp [scA, sm]; omega
  have hS : scS [a, a] [x, y] = 2 * a * x + 2 * a * y := by simp [scS, sm]
  unfold scO
  rw [hA, hS]
  simp only [List.getD_cons_zero, List.getD_cons_succ]
  constructor
  · rw [show 2 * a * x + 2 * a * y - 2 * a * x = 2 * a * y by omega]; exact Int.mul_tdiv_cancel_left _ (by omega)
  · rw [show 2 * a * x + 2 * a * y - 2 * a * y = 2 * a * x by omega]; exact Int.mul_tdiv_cancel_left _ (by omega)
theorem At.step {S : TS} {a x g l : Int} {n k : Nat} (h : S.At a x g l n k) (ok : S.Ok) (ha : 1 ≤ a) (hk : k + 1 < n) : S.step.At a x g l n (k + 1) := by
  have hlen : S.A.length = n := by rw [h.A]; simp
  have hN : S.N = n := by unfold TS.N; rw [hlen, h.D]; rfl
  refine ⟨h.A, h.D, h.g, h.l, fun s hs => ?_⟩
  have q := stepW_get ok (s := s) (by omega)
  have har : ∀ i, i < n → arL S.A S.D i = a := fun i hi => by
    unfold arL
    rw [if_pos (by omega), h.A, List.getD_eq_getElem?_getD, List.getElem?_replicate, if_pos hi]; rfl
  have jo : ∀ i, i + 1 < n → S.jo (S.frM i) 0 = S.W.getD ((i + 1) * 2 + 1) 0 ∧ S.jo (S.frM i) 1 = S.W.getD (i * 2) 0 := fun i hi => by
    have e1 : S.frM i = [(i, 0), (i + 1, 1)] := by unfold frM; rw [if_neg (fun hc => hc.1 h.D)]; rfl
    rw [e1]
    have ea : arsJ S.A S.D [(i, 0), (i + 1, 1)] = [a, a] := by show [arL S.A S.D i, arL S.A S.D (i + 1)] = _; rw [har i (by omega), har _ hi]
    have ew : wvsJ S.W [(i, 0), (i + 1, 1)] = [S.W.getD (i * 2) 0, S.W.getD ((i + 1) * 2 + 1) 0] := rfl
    unfold TS.jo
    rw [ea, ew]
    exact sc2 ha
  show S.stepW.getD _ 0 = _ ∧ S.stepW.getD _ 0 = _
  rw [q.1, q.2]
  unfold vF vB
  rw [hlen]
  constructor
  · by_cases h0 : s = 0
    · subst h0
      rw [if_pos rfl, if_neg (by omega)]
      have := (h.w 0 (by omega)).2
      unfold endO
      rw [show 0 * 2 + 1 = 0 * 2 + 1 from rfl, this]; simp
    · rw [if_neg h0, if_pos hs, (jo (s - 1) (by omega)).2, (h.w (s - 1) (by omega)).1]
      by_cases e : s - 1 = k
      · rw [if_pos e, if_pos (by omega)]
      · rw [if_neg e, if_neg (by omega)]
  · by_cases h1 : s + 1 < n
    · rw [if_pos h1, (jo s h1).1, (h.w (s + 1) h1).2]
    · rw [if_neg h1, if_pos (by omega)]
      unfold endO
      rw [Nat.add_zero, (h.w s hs).1, if_neg (by omega)]; simp
theorem At.hear {S : TS} {a x g l : Int} {n k : Nat} (h : S.At a x g l n k) (hk : k < n) : S.stepH = if k + 1 = n then (x + (-l * x).tdiv 100, 0) else (0, 0) := by
  have hlen : S.A.length = n := by rw [h.A]; simp
  rw [stepH_eq]
  unfold lipO nosO
  rw [if_pos h.D, hlen, h.l, (h.w (n - 1) (by omega)).1]
  by_cases e : k + 1 = n
  · rw [if_pos e, if_pos (by omega)]
  · rw [if_neg e, if_neg (by omega)]; simp
theorem At.stepN {S : TS} {a x g l : Int} {n : Nat} (h : S.At a x g l n 0) (hi : S.In 1000) (ha : 1 ≤ a) : ∀ k, k < n → (S.stepN k).At a x g l n k ∧ (S.stepN k).In 1000
  | 0, _ => ⟨h, hi⟩
  | k + 1, hk => by
    have q := At.stepN h hi ha k (by omega)
    exact ⟨q.1.step (q.2.ok (by decide)) ha hk, q.2.stp (by decide)⟩
end TS
theorem c9 (n0 a l g x : Int) (H : Hp) : Ret Try.prog 9 [I n0, I a, I l, I g, I x] H (B true) H := by
  refine mk9 _ _ _ _ _ rfl (Nat.le_refl _) (.inl rfl) ?_
  simp only [vc9, real]
  repeat (first | (with_reducible first | refine jn_go ?_ | refine ud_go ?_ | refine tr_go ?_ | (refine Hd.go ?_; intro K Q hK hQ; simp only [nod_imm, Try.underlying3, e_lss, e_gtr, e_gF, j_or', j_one, Int.reduceNeg, List.getD_cons_succ, List.getD_cons_zero, e_cond]; subst hK hQ) | refine rn_go ?_ | refine rv_go ?_ | refine jv_go ?_) | refine sd ?_)
  by_cases hA : (decide (n0 < 1) || decide (24 < n0) || decide (x < -500) || decide (500 < x)) = true
  · repeat (first | (with_reducible first | refine jn_go ?_ | refine ud_go ?_ | refine tr_go ?_ | (refine Hd.go ?_; intro K Q hK hQ; simp only [Int.reduceNeg, hA, if_true]; subst hK hQ) | refine rn_go ?_ | refine rv_go ?_ | refine jv_go ?_) | refine sd ?_)
    refine call_of (c17 _) ?_
    with_reducible first | refine rv_go ?_ | refine rn_go ?_ | skip
    first | exact end1 (fzI _) | exact end1A (fzI _)
  have hA' := hA
  simp only [Bool.or_eq_true, decide_eq_true_eq, not_or, Int.not_lt] at hA'
  obtain ⟨n, rfl⟩ := Int.eq_ofNat_of_zero_le (show 0 ≤ n0 by omega)
  repeat (first | (with_reducible first | refine jn_go ?_ | refine ud_go ?_ | refine tr_go ?_ | (refine Hd.go ?_; intro K Q hK hQ; simp only [Int.reduceNeg, hA, Bool.false_eq_true, if_false, List.getD_cons_succ, List.getD_cons_zero, nod_imm, e_bd1, okE_I, Nat.reduceAdd, lv_cons, List.length_nil, Nat.zero_add, Nat.reduceLeDiff, cl_imm, spl_s, spl_0, spl_n, e_bd0, true_and, e_bx, okE_agg, all_c, ck_arr, ck_I, all_n, Bool.and_self, and_true, cl_agg, nod_ptr, e_sc0, stV_agg, List.map_cons, nodL_arr, nd_full, nodL_imm, List.map_nil]; subst hK hQ) | refine rn_go ?_ | refine rv_go ?_ | refine jv_go ?_) | refine sd ?_)
  refine loop_of (fun i : Nat => i ≤ n) (fun i => [I n, I a, I l, I x, .ptr H.length 0, I i]) (fun i => H ++ [.cells [ints (List.replicate i a) (oF i), .arr [] .full, I 0, I g, I l, I 0]]) (fun i => n - i) 0 (Nat.zero_le _) rfl rfl ?_
  intro i hi
  repeat (first | (with_reducible first | refine jn_go ?_ | refine ud_go ?_ | refine tr_go ?_ | (refine Hd.go ?_; intro K Q hK hQ; simp only [List.getD_cons_succ, List.getD_cons_zero, nod_imm, Try.underlying3, e_lss, e_cond, decide_eq_true_eq]; subst hK hQ) | refine rn_go ?_ | refine rv_go ?_ | refine jv_go ?_) | refine sd ?_)
  by_cases hlt : i < n
  · have d : (i : Int) < n := by omega
    repeat (first | (with_reducible first | refine jn_go ?_ | refine ud_go ?_ | refine tr_go ?_ | (refine Hd.go ?_; intro K Q hK hQ; simp only [d, if_true, List.getD_cons_succ, List.getD_cons_zero, nod_ptr, e_fa, Nat.add_zero, e_lM0, Nat.zero_add, lv_cons, List.length_nil, Nat.reduceAdd, Nat.reduceLeDiff, nodL_ints, vs_0, true_and, nod_imm, bs1, nod_ints, nd_full, e_app, oF_ap, List.length_replicate, e_sc0, stV_ints, okE_ints, cl_ints, spl_0, spl_n, Try.underlying3, e_add]; subst hK hQ) | refine rn_go ?_ | refine rv_go ?_ | refine jv_go ?_) | refine sd ?_)
    exact ⟨i + 1, by omega, rfl, by rw [List.replicate_succ']; rfl, by omega⟩
  have d : ¬ (i : Int) < n := by omega
  have ei : i = n := by omega
  subst ei
  have hof : oF i = .own := by
    cases i with
    | zero => omega
    | succ i => rfl
  repeat (first | (with_reducible first | refine jn_go ?_ | refine ud_go ?_ | refine tr_go ?_ | (refine Hd.go ?_; intro K Q hK hQ; simp only [d, if_false, List.getD_cons_zero, List.getD_cons_succ, hof, nod_ptr, e_lA0, Nat.zero_add, lv_cons, List.length_nil, Nat.reduceAdd, Nat.reduceLeDiff, dr_0, tk_s, tk_0, nod_agg, List.map_cons, nodL_ints, nd_own, nodL_arr, nd_full, nodL_imm, List.map_nil, true_and, nd_no]; subst hK hQ) | refine rn_go ?_ | refine rv_go ?_ | refine jv_go ?_) | refine sd ?_)
  have hlen : (List.replicate i a).length = i := List.length_replicate
  refine call_wkC (c19 (List.replicate i a) [] 0 g l 0 _ ⟨by omega, by simp⟩) (.same _ (.full _ (.same _ (.same _ (.same _ (.same _ .nil)))))) rfl ?_
  by_cases hS : ShOk (List.replicate i a) [] 0 g l 0
  · rw [decide_eq_true hS]
    repeat (first | (with_reducible first | refine jn_go ?_ | refine ud_go ?_ | refine tr_go ?_ | (refine Hd.go ?_; intro K Q hK hQ; simp only [nod_imm, e_not, Bool.not_true, e_cond, Bool.false_eq_true, if_false, List.getD_cons_succ, List.getD_cons_zero, nod_ptr, e_lA0, Nat.zero_add, lv_cons, List.length_nil, Nat.reduceAdd, Nat.reduceLeDiff, dr_0, tk_s, tk_0, nod_agg, List.map_cons, nodL_ints, nd_own, nodL_arr, nd_full, nodL_imm, List.map_nil, true_and, nd_no]; subst hK hQ) | refine rn_go ?_ | refine rv_go ?_ | refine jv_go ?_) | refine sd ?_)
    have ha : 1 ≤ a ∧ a ≤ 1000 := okAs_iff.1 hS.ra a (by rw [List.mem_replicate]; omega)
    refine callE_wkC (c25 (List.replicate i a) [] 0 g l 0 _ ⟨by omega, by simp⟩) (.same _ (.full _ (.same _ (.same _ (.same _ (.same _ .nil)))))) rfl ?_
    intro v H1 hq
    rw [if_pos hS] at hq
    obtain ⟨b, bA, bD, bw, rfl, hb, hT, hF⟩ := hq
    have hF0 := (Fr0.app H _).trans hF
    have hHb : H.length ≤ b := Nat.le_trans (by simp) hb.1
    clear hF
    repeat (first | (with_reducible first | refine jn_go ?_ | refine ud_go ?_ | refine tr_go ?_ | (refine Hd.go ?_; intro K Q hK hQ; simp only [nod_tup, List.map_cons, nod2_ptr, nod2_imm, List.map_nil, e_x20, e_x21, List.getD_cons_zero, List.getD_cons_succ, nod_imm, Try.underlying27, e_neq, decide_true, Bool.not_true, nod_ptr, Try.underlying41, e_npeP, e_gF, cond_false, j_one, e_cond, Bool.false_eq_true, if_false, e_bd1, okE_I, Nat.reduceAdd, lv_cons, List.length_nil, Nat.zero_add, Nat.reduceLeDiff, cl_imm, spl_s, spl_0, spl_n, e_bd0, true_and, nod_agg, nodL_imm, bsF1, nod_arr, nd_full]; subst hK hQ) | refine rn_go ?_ | refine rv_go ?_ | refine jv_go ?_) | refine sd ?_)
    generalize hS0 : TS.new (List.replicate i a) [] 0 g l 0 = S0 at *
    have in0 : S0.In 0 := by rw [← hS0]; exact TS.in_new hS
    have st0 : S0.st = 0 := by rw [← hS0]; rfl
    have sl0 : S0.Still := by rw [← hS0]; exact TS.Still.new _ _ _ _ _ _
    have eA : S0.A = List.replicate i a := by rw [← hS0]; rfl
    have eD : S0.D = [] := by rw [← hS0]; rfl
    have eg : S0.g = g := by rw [← hS0]; rfl
    have el : S0.l = l := by rw [← hS0]; rfl
    have ok0 := in0.ok (by decide)
    have fed : FedOk S0.A.length [(0, x)] := by
      rw [eA, hlen]
      refine ⟨?_, by simp, ?_⟩
      · simp only [List.all_cons, List.all_nil, Bool.and_true, okF, Bool.and_eq_true, inB_iff]; omega
      · show absI x + 0 ≤ 500
        unfold absI; omega
    have e1 : S0.nx [(0, x)] = S0.step.feed [(0, x)] := if_pos fed
    have e2 : S0.hd [(0, x)] = (0, 0) := (if_pos fed).trans sl0.hear
    have e3 : S0.er [(0, x)] = 0 := if_pos fed
    have at0 : (S0.nx [(0, x)]).At a x g l i 0 := by
      rw [e1]
      have st := sl0.step ok0
      have wl : S0.step.W.length = i * 2 := by
        show S0.stepW.length = _
        rw [TS.stepW_len]; unfold TS.N; rw [eA, eD, hlen]; rfl
      refine ⟨eA, eD, eg, el, fun s hs => ?_⟩
      show (S0.step.W.set 0 (S0.step.W.getD 0 0 + x)).getD _ 0 = _ ∧ (S0.step.W.set 0 (S0.step.W.getD 0 0 + x)).getD _ 0 = _
      rw [getD_set, getD_set, st, st, st]
      constructor
      · by_cases e : s = 0
        · rw [if_pos ⟨by omega, by omega⟩, if_pos e]; omega
        · rw [if_neg (by omega), if_neg e]
      · rw [if_neg (by omega)]
    have in1 := (in0.nx (by decide) [(0, x)]).mono (show (0 : Int) + 500 ≤ 1000 by omega)
    have st1 := TS.nx_st S0 [(0, x)] (by omega)
    have all := at0.stepN in1 ha.1
    refine cStep (l := [(0, x)]) hT in0 (by omega) (by omega) (by omega) (by simp) (.inr rfl) ?_
    intro H2 bw2 hw2 hT2 hF2
    rw [e2, e3]
    repeat (first | (with_reducible first | refine jn_go ?_ | refine ud_go ?_ | refine tr_go ?_ | (refine Hd.go ?_; intro K Q hK hQ; simp only [nod_tup, List.map_cons, nod2_agg, nodL_imm, List.map_nil, nod2_imm, e_x20, e_x21, nod_agg, e_bxI, okE_agg, lv_cons, List.length_nil, Nat.zero_add, Nat.reduceAdd, all_c, ck_I, all_n, Bool.and_self, and_true, true_and, List.getD_cons_zero, List.getD_cons_succ, nod_ptr, nod_imm]; subst hK hQ) | refine rn_go ?_ | refine rv_go ?_ | refine jv_go ?_) | refine sd ?_)
    have inN : ∀ k, ((S0.nx [(0, x)]).stepN k).In 1000 := fun k => by
      induction k with
      | zero => exact in1
      | succ k ih => exact ih.stp (by decide)
    refine callE_of (c39 b bA bD bw2 (S0.nx [(0, x)]) i _ hT2 (fun _ _ _ k _ => (inN k).ok (by decide)) (in1.ok (by decide)) st1.1 (by omega)) ?_
    intro v H3 hq
    rw [if_neg (by rw [show inB (i : Int) 0 100000 = true from inB_iff.2 (by omega)]; simp), if_neg (by omega)] at hq
    obtain ⟨f, hf, rfl, -, hF3⟩ := hq
    have hlo : ((S0.nx [(0, x)]).outs i).length = i := by simp [TS.outs]
    have hfr : Fr0 H H3 := ((hF0.step hF2 hHb).step hF3 hHb)
    rw [show (i : Int).toNat = i from rfl]
    have get : ∀ k, k < i → ((S0.nx [(0, x)]).outs i).getD k (0, 0) = if k + 1 = i then (x + (-l * x).tdiv 100, 0) else (0, 0) := fun k hk => by
      unfold TS.outs
      rw [List.getD_eq_getElem?_getD, List.getElem?_map, List.getElem?_range hk]
      exact (all k hk).1.hear hk
    generalize (S0.nx [(0, x)]).outs i = L at *
    have hff : f.nd = f := by rcases hf with rfl | rfl <;> rfl
    repeat (first | (with_reducible first | refine jn_go ?_ | refine ud_go ?_ | refine tr_go ?_ | (refine Hd.go ?_; intro K Q hK hQ; simp only [nod_tup, List.map_cons, nod2_arr, hff, nod2_imm, List.map_nil, e_x20, e_x21, List.getD_cons_succ, List.getD_cons_zero, nod_imm, Try.underlying27, e_neq, decide_true, Bool.not_true, e_gF, cond_false, j_one, nod_cptr, e_bd0, nod_agg, nodL_imm, e_ldcA, lv_cons, List.length_nil, Nat.zero_add, Nat.reduceAdd, ne48, Bool.and_self, true_and, nod_arr, e_lenA, List.length_map, hlo, Try.underlying3, e_cond, Bool.false_eq_true, if_false]; subst hK hQ) | refine rn_go ?_ | refine rv_go ?_ | refine jv_go ?_) | refine sd ?_)
    refine loop_of (fun k : Nat => k + 1 ≤ i) (fun k => [I i, I l, I x, .arr (L.map fdV) f, I k]) (fun _ => H3) (fun k => i - k) 0 (by omega) rfl rfl ?_
    intro k hk
    repeat (first | (with_reducible first | refine jn_go ?_ | refine ud_go ?_ | refine tr_go ?_ | (refine Hd.go ?_; intro K Q hK hQ; simp only [List.getD_cons_zero, nod_imm, Try.underlying3, e_sub, List.getD_cons_succ, e_lss, e_cond, decide_eq_true_eq]; subst hK hQ) | refine rn_go ?_ | refine rv_go ?_ | refine jv_go ?_) | refine sd ?_)
    by_cases hkt : k + 1 < i
    · have d : (k : Int) < (i : Int) - 1 := by omega
      have gk := get k (by omega)
      rw [if_neg (by omega)] at gk
      repeat (first | (with_reducible first | refine jn_go ?_ | refine ud_go ?_ | refine tr_go ?_ | (refine Hd.go ?_; intro K Q hK hQ; simp only [d, if_true, List.getD_cons_succ, List.getD_cons_zero, nod_arr, hff, nod_imm, ixV, Int.toNat_natCast, gk, nod_cptr, e_ldcA, lv_cons, List.length_nil, Nat.zero_add, Nat.reduceAdd, true_and, e_bd0, nod_agg, List.map_cons, nodL_imm, List.map_nil, ne48, decide_true, Bool.and_self, Bool.not_true, e_cond, Bool.false_eq_true, if_false, Try.underlying3, e_add]; subst hK hQ) | refine rn_go ?_ | refine rv_go ?_ | refine jv_go ?_) | refine sd ?_)
      exact ⟨k + 1, by omega, rfl, rfl, by omega⟩
    · have d : ¬ (k : Int) < (i : Int) - 1 := by omega
      have gk := get (i - 1) (by omega)
      rw [if_pos (by omega)] at gk
      have ti : ((i : Int) - 1).toNat = i - 1 := by omega
      have hb := abs_mul_le (a := l) (b := x) (A := 99) (B := 500) (by have := hS.l0; omega) (by have := hS.l0; omega) (by omega) (by omega)
      have hb2 := tdiv_bd (x := l * x) (y := 100) (M := 49500) (by omega) (by omega) (by omega)
      have ev : x + (-l * x).tdiv 100 = x - (l * x).tdiv 100 := by rw [Int.neg_mul, Int.neg_tdiv]; omega
      rw [ev] at gk
      repeat (first | (with_reducible first | refine jn_go ?_ | refine ud_go ?_ | refine tr_go ?_ | (refine Hd.go ?_; intro K Q hK hQ; simp only [d, if_false, List.getD_cons_zero, List.getD_cons_succ, nod_imm, Try.underlying3, e_sub, nod_arr, hff, ixV, ti, gk, nod_cptr, e_fac, Nat.zero_add, lv_cons, List.length_nil, Nat.reduceAdd, Nat.reduceLeDiff, true_and, e_ldc, e_mul, e_quo, ne_eq, Int.reduceEq, not_false_eq_true, e_eql, decide_true, e_gT, cond_true, j_side, j_one]; subst hK hQ) | refine rn_go ?_ | refine rv_go ?_ | refine jv_go ?_) | refine sd ?_)
      refine call_of (c17 _) ?_
      with_reducible first | refine rv_go ?_ | refine rn_go ?_ | skip
      exact end1F hfr
  · rw [decide_eq_false hS]
    repeat (first | (with_reducible first | refine jn_go ?_ | refine ud_go ?_ | refine tr_go ?_ | (refine Hd.go ?_; intro K Q hK hQ; simp only [nod_imm, e_not, Bool.not_false, e_cond, if_true]; subst hK hQ) | refine rn_go ?_ | refine rv_go ?_ | refine jv_go ?_) | refine sd ?_)
    refine call_of (c17 _) ?_
    with_reducible first | refine rv_go ?_ | refine rn_go ?_ | skip
    first | exact end1 (fzI _) | exact end1A (fzI _)
end Go.Proofs.Ytpielcbpfbajlaa


set_option linter.unusedVariables false
set_option linter.unusedSimpArgs false
set_option linter.unnecessarySimpa false
set_option maxRecDepth 20000
set_option maxHeartbeats 2000000
namespace Go.Proofs.Ytpielcbpfbajlaa
open Go Go.Ab Go.Proofs
attribute [local congr] g_bin g_nilS g_nilP g_un g_ext g_bx g_fa g_ld g_st g_ix g_ixA g_slc g_mk g_bs g_bd g_nc g_cv g_len g_lenT g_app g_appB g_cpy g_mm g_call g_callG g_calm g_calmG g_range g_res g_pick g_cond g_loop g_Jv g_eqS g_eqP g_fd g_ixT g_ta g_lkp g_upd g_mkM g_appS g_inv g_callE g_callEG g_invE g_zr
open Go.ChangeShapes Go.WideShapes Go.ChangeAt Go.RowKit
theorem own : ownKnob Try.prog.godebug = none := by kernel_rfl
theorem laidOut : laidOutB Try.prog = true := by kernel_rfl
set_option maxRecDepth 100000 in
theorem lifted (os : Os) (started : os.Started) (H : Type) (enc : TypeId × Value → H) :
    ReturnsInHanded {} Try.checked os 9 .any (Rows.tractStraightSpec.pre6 enc Try.prog Try.f9 Rows.tractStraightRow.domain false) (Rows.tractStraightSpec.post enc Try.prog Try.f9 false true false false) := by
  refine returnsInHanded_of_change (C := Try.checked) own started (by kernel_rfl) Try.func9
    (ChangeSpec.witness6 (enc := enc) (C := Try.checked) false ⟨#[], #[.int .i64 0, .int .i64 0, .int .i64 0, .int .i64 0, .int .i64 0], []⟩ 8 (by kernel_rfl) (by kernel_rfl) (by kernel_rfl) (by kernel_rfl)) ?_
  intro W base args ds gs before hval0 hW hcnd _
  have hval : ∀ (j : Nat) t v, Try.f9.params[j]? = some t → args[j]? = some v → Value.okWide Try.prog W .any base t v := hval0
  have hW' := hW
  obtain ⟨p, q, hA0, hV, rfl, hfz, hnd⟩ := hW
  have hA : DataW.TrodAll enc Try.prog W 0 (fun _ => true) true Try.f9.params.toList args.toList ds p := hA0
  rw [Try.params9] at hA hval
  obtain ⟨v0, vs0, d0, ds0, p0, q0, hargs, rfl, rfl, h0, r0⟩ := trodAll_cons hA
  obtain ⟨v1, vs1, d1, ds1, p1, q1, rfl, rfl, rfl, h1, r1⟩ := trodAll_cons r0
  obtain ⟨v2, vs2, d2, ds2, p2, q2, rfl, rfl, rfl, h2, r2⟩ := trodAll_cons r1
  obtain ⟨v3, vs3, d3, ds3, p3, q3, rfl, rfl, rfl, h3, r3⟩ := trodAll_cons r2
  obtain ⟨v4, vs4, d4, ds4, p4, q4, rfl, rfl, rfl, h4, r4⟩ := trodAll_cons r3
  obtain ⟨rfl, rfl, rfl⟩ := trodAll_nil r4
  obtain rfl : args = #[v0, v1, v2, v3, v4] := by cases args; simp_all
  obtain ⟨rfl, rfl⟩ := trodVars_none hV
  have lt0 : ∀ x ∈ p0, x.block < W.heap.size := by obtain ⟨m, hm⟩ := h0; exact DataW.trod_lt m _ _ _ hm
  obtain ⟨n0, e0, w0⟩ := in_int Try.underlying3 (hval 0 _ v0 rfl rfl) h0
  have lt1 : ∀ x ∈ p1, x.block < W.heap.size := by obtain ⟨m, hm⟩ := h1; exact DataW.trod_lt m _ _ _ hm
  obtain ⟨n1, e1, w1⟩ := in_int Try.underlying3 (hval 1 _ v1 rfl rfl) h1
  have lt2 : ∀ x ∈ p2, x.block < W.heap.size := by obtain ⟨m, hm⟩ := h2; exact DataW.trod_lt m _ _ _ hm
  obtain ⟨n2, e2, w2⟩ := in_int Try.underlying3 (hval 2 _ v2 rfl rfl) h2
  have lt3 : ∀ x ∈ p3, x.block < W.heap.size := by obtain ⟨m, hm⟩ := h3; exact DataW.trod_lt m _ _ _ hm
  obtain ⟨n3, e3, w3⟩ := in_int Try.underlying3 (hval 3 _ v3 rfl rfl) h3
  have lt4 : ∀ x ∈ p4, x.block < W.heap.size := by obtain ⟨m, hm⟩ := h4; exact DataW.trod_lt m _ _ _ hm
  obtain ⟨n4, e4, w4⟩ := in_int Try.underlying3 (hval 4 _ v4 rfl rfl) h4
  clear hA0 hval0
  refine (bridge (args := [I n0, I n1, I n2, I n3, I n4]) (ra := #[v0, v1, v2, v3, v4]) (c9 n0 n1 n2 n3 n4  []) rfl (by intro a ha; simp at ha; rcases ha with rfl | rfl | rfl | rfl | rfl <;> rfl) (fun i => ?_)).mono fun e W' ⟨he, bel⟩ => ?_
  · match i with
    | 0 => exact e0
    | 1 => exact e1
    | 2 => exact e2
    | 3 => exact e3
    | 4 => exact e4
    | i + 5 => exact .junk _
  · subst he
    exact ⟨_, rfl, _, _, _, [], _, [], hW', trodAll_mk1 (shut_bool Try.underlying4 _), (trodAll_cons_mk (Below.trod laidOut (by kernel_rfl) (of_decide_eq_true (by kernel_rfl)) h0 bel lt0) (trodAll_cons_mk (Below.trod laidOut (by kernel_rfl) (of_decide_eq_true (by kernel_rfl)) h1 bel lt1) (trodAll_cons_mk (Below.trod laidOut (by kernel_rfl) (of_decide_eq_true (by kernel_rfl)) h2 bel lt2) (trodAll_cons_mk (Below.trod laidOut (by kernel_rfl) (of_decide_eq_true (by kernel_rfl)) h3 bel lt3) (trodAll_cons_mk (Below.trod laidOut (by kernel_rfl) (of_decide_eq_true (by kernel_rfl)) h4 bel lt4) trodAll_mk0))))), rfl, bel.frame _, fun h => by cases h⟩
theorem over : Rows.tractStraightRow.holds Try.pinned (OpenSpec.ofChange Rows.tractStraightSpec) :=
  OpenClaim.holds_of_wide 9 Try.f9 rfl rfl rfl rfl rfl rfl rfl ⟨rfl, rfl, rfl, rfl, rfl⟩ rfl rfl rfl rfl rfl (by kernel_rfl) Try.func9 (by kernel_rfl)
    (of_decide_eq_true (by kernel_rfl)) (by unfold Func.isWrapper; first | (rw [if_pos (by decide +kernel)]; kernel_rfl) | (rw [if_neg (by decide +kernel)]; exact ⟨rfl, rfl⟩))
    (fun os started H enc _ => lifted os started H enc)
theorem tractStraight_holds : Rows.TractStraightSaid := over
#print axioms tractStraight_holds
end Go.Proofs.Ytpielcbpfbajlaa

