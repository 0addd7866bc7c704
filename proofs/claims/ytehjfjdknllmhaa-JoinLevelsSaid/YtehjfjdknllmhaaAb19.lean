/- An abstract machine over list values: the same once more, over whatever combinators, so that the kernel walks the code and not them. -/
import Derived.Test.YtehjfjdknllmhaaAb18
set_option linter.unusedVariables false
set_option linter.unusedSimpArgs false
set_option linter.unnecessarySimpa false
namespace Go.Ab
open Go

structure Cb where
  aNilS : Option TypeDesc → BinOp → V → (V → Prop) → Prop
  aNilP : Option TypeDesc → BinOp → V → (V → Prop) → Prop
  aBin : Option TypeDesc → BinOp → V → V → (V → Prop) → Prop
  aUn : UnOp → V → (V → Prop) → Prop
  aExt : Nat → V → (V → Prop) → Prop
  aBx : Bool → Nat → V → Hp → (V → Hp → Prop) → Prop
  aFA : Nat → Nat → Bool → V → (V → Prop) → Prop
  aLd : Nat → Bool → Bool → V → Hp → (V → Hp → Prop) → Prop
  aSt : Nat → V → V → Hp → (V → Hp → Prop) → Prop
  aIx : Nat → V → V → (V → Prop) → Prop
  aIxA : Nat → Nat → Bool → V → V → (V → Prop) → Prop
  aSlc : Nat → V → Option V → Option V → Option V → (V → Prop) → Prop
  aMk : Bool → V → Nat → V → V → Hp → (V → Hp → Prop) → Prop
  aBS : Nat → Nat → V → List (Nat × V) → (V → Prop) → Prop
  aBd : List V → List (Nat × Nat × V) → (V → Prop) → Prop
  aNC : V → (V → Prop) → Prop
  aCv : Option TypeDesc → V → (V → Prop) → Prop
  aLen : V → (V → Prop) → Prop
  aLenT : V → (V → Prop) → Prop
  aApp : Nat → Nat → V → V → (V → Prop) → Prop
  aAppB : Nat → Nat → V → V → Hp → (V → Hp → Prop) → Prop
  aCpy : Nat → V → V → Hp → (V → Hp → Prop) → Prop
  aMM : Bool → List V → (V → Prop) → Prop
  call : Nat → List V → Hp → (V → Hp → Prop) → Prop
  aRes : Nat → Bool → V → Hp → (V → Prop) → Prop
  calm : Nat → List V → Hp → (V → Prop) → Prop
  cally : Nat → List V → Hp → (V → Hp → Prop) → Prop
  range : V → Nat → Hp → (List V → Hp → (Hp → (Hp → Prop) → Prop) → (Bool → Hp → Prop) → Prop) → (Hp → Prop) → (Hp → Prop) → Prop

def real (P : Program) : Cb := ⟨aNilS, aNilP, aBin, aUn, aExt, aBx, aFA, aLd, aSt, aIx, aIxA, aSlc, aMk, aBS, aBd, aNC, aCv, aLen, aLenT, aApp, aAppB, aCpy, aMM, CallA P, aRes, CalmA P, CallY P, aRange P⟩

def aCallG (C : Cb) (fv : V) (args : List V) (H : Hp) (K : V → Hp → Prop) : Prop := match fv with | .fn f caps => C.call f (args ++ caps) H K | .yld b => C.cally b args H K | _ => False

def effG (P : Program) (C : Cb) (an : An) (mv : Bool) (o : Oper) (ev : Operand → V) (H : Hp) (K : V → Hp → Prop) : Prop :=
  match o.op with
  | .move x => K (ev x) H
  | .assign x => K (ev x) H
  | .pick c a b => aPick (ev c) (ev a) (ev b) fun v => K v H
  | .binOp op t x (.const (.slice none 0 0)) _ => C.aNilS (P.underlying t) op (ev x) fun v => K v H
  | .binOp op t x (.const (.pointer none)) _ => C.aNilP (P.underlying t) op (ev x) fun v => K v H
  | .binOp op t x y _ => C.aBin (P.underlying t) op (ev x) (ev y) fun v => K v H
  | .unOp op _ x => C.aUn op (ev x) fun v => K v H
  | .extract x i => C.aExt i (ev x) fun v => K v H
  | .alloc t => (match zeroV P t with | some z => C.aBx false (szT P t) z H K | none => False)
  | .box t x => C.aBx (immO an o) (szT P t) (ev x) H K
  | .fieldAddr s x f =>
    (match P.underlying s with
     | some (.struct fs) => (match fs[f]? with | some fd => (cnd (Nat.beq (szT P fd.type) 0) False <| C.aFA fd.offset (szT P fd.type) (agT P fd.type) (ev x) fun v => K v H) | none => False)
     | _ => False)
  | .load t x => (match P.underlying t with | some _ => cnd (Nat.beq (szT P t) 0) False <| C.aLd (szT P t) (agT P t) mv (ev x) H K | none => False)
  | .store t x v => cnd (Nat.beq (szT P t) 0) False <| C.aSt (szT P t) (ev x) (ev v) H K
  | .indexAddr t x i =>
    (match P.underlying t with
     | some (.slice e) => cnd (Nat.beq (szT P e) 0) False <| C.aIx (szT P e) (ev x) (ev i) fun v => K v H
     | some (.array n e) => cnd (Nat.beq (szT P e) 0) False <| C.aIxA n (szT P e) (agT P e) (ev x) (ev i) fun v => K v H
     | _ => False)
  | .slice t x lo hi mx =>
    (match P.underlying t with
     | some (.slice e) => cnd (Nat.beq (szT P e) 0) False <| C.aSlc (szT P e) (ev x) (lo.map ev) (hi.map ev) (mx.map ev) fun v => K v H
     | _ => False)
  | .makeSlice t l c =>
    (match P.underlying t with
     | some (.slice e) => (match zeroV P e with | some z => cnd (!(Nat.beq z.cl.length (szT P e) && z.cl.all cellOk) || Nat.beq (byT P e) 0 || Nat.beq (szT P e) 0) False <| C.aMk (immO an o) z (byT P e) (ev l) (ev c) H K | none => False)
     | _ => False)
  | .buildSlice t len parts =>
    (match P.underlying t with
     | some (.slice e) => (match zeroV P e with | some z => cnd (!(Nat.beq z.cl.length (szT P e) && z.cl.all cellOk) || Nat.beq (szT P e) 0 || !Nat.ble (len * szT P e) 16777216) False <| C.aBS (szT P e) len z (parts.toList.map fun p => (p.1, ev p.2)) fun v => K v H | none => False)
     | _ => False)
  | .build t parts =>
    (match placesOf P t with
     | some pl => (match zeroV P t, partsOf pl (fun x => (ev x).nod) parts.toList with | some (.agg cs), some ps => C.aBd cs ps fun v => K (match bld0 pl parts.toList with | true => own0 v (firstV ev parts.toList) | false => v) H | _, _ => False)
     | none => False)
  | .makeInterface t x => (match P.underlying t with | some (.interface _) => False | some _ => K (.ifc t (ev x)) H | none => False)
  | .makeFunc (.func f) first caps => (match first.toList with | [] => K (.fn f (caps.toList.map ev)) H | _ => False)
  | .nilCheck x => C.aNC (ev x) fun v => K v H
  | .convert s d x => (match P.underlying s with | some _ => C.aCv (P.underlying d) (ev x) fun v => K v H | none => False)
  | .call { callee := .builtin .len, args, argTypes } =>
    (match args.toList, argTypes.toList with | [x], [t] => (match P.underlying t with | some (.slice _) => C.aLen (ev x) fun v => K v H | some .string => C.aLenT (ev x) fun v => K v H | _ => False) | _, _ => False)
  | .call { callee := .builtin .append, args, argTypes } =>
    (match args.toList, argTypes.toList with
     | [x, y], [t, t'] => (cnd (Nat.beq t t') (match P.underlying t with | some (.slice e) => (match zeroV P e with | some z => (cnd (!(Nat.beq z.cl.length (szT P e) && z.cl.all cellOk) || Nat.beq (szT P e) 0 || Nat.beq (byT P e) 0) False <| cnd (immO an o) (C.aAppB (szT P e) (byT P e) (ev x) (ev y) H K) (C.aApp (szT P e) (byT P e) (ev x) (ev y) fun v => K v H)) | none => False) | _ => False) False)
     | _, _ => False)
  | .call { callee := .builtin .copy, args, argTypes } =>
    (match args.toList, argTypes.toList with
     | [x, y], [t, _] => (match P.underlying t with | some (.slice e) => cnd (Nat.beq (szT P e) 0) False <| C.aCpy (szT P e) (ev x) (ev y) H K | _ => False)
     | _, _ => False)
  | .call { callee := .builtin .max, args, argTypes := _ } => C.aMM true (args.toList.map ev) fun v => K v H
  | .call { callee := .builtin .min, args, argTypes := _ } => C.aMM false (args.toList.map ev) fun v => K v H
  | .call { callee := .value f, args, argTypes := _ } => aCallG C (ev f) (args.toList.map ev) H K
  | _ => False


def aCalmG (C : Cb) (fv : V) (args : List V) (H : Hp) (K : V → Prop) : Prop := match fv with | .fn f caps => C.calm f (args ++ caps) H K | _ => False
def calmG (C : Cb) (o : Oper) (ev : Operand → V) (H : Hp) (K : V → Hp → Prop) : Prop :=
  match o.op with | .call { callee := .value f, args, argTypes := _ } => aCalmG C (ev f) (args.toList.map ev) H (fun v => K v H) | _ => False
def effXG (P : Program) (C : Cb) (an : An) (dr mv : Bool) (o : Oper) (ev : Operand → V) (H : Hp) (K : V → Hp → Prop) : Prop :=
  cnd (dr && calmO an o) (calmG C o ev H K) (effG P C an mv o ev H K)
def opXG (P : Program) (C : Cb) (an : An) (dr : Bool) (ops : List Oper) (o : Oper) (fr : Fr) (H : Hp) (K : Fr → Hp → Prop) : Prop :=
  effXG P C an dr (mvOf ops o) o (opd fr (consOf (mvOf ops o) o)) H fun v H' => K (putO (useO fr (consOf (mvOf ops o) o)) o.dst v) H'

def opsG (P : Program) (C : Cb) (an : An) (dr : Bool) (ops : List Oper) : List Oper → List Nat → Fr → Hp → (Fr → Hp → Prop) → Prop
  | [], U, fr, H, K => K fr H
  | o :: rest, U, fr, H, K =>
    match o.guard with
    | none => opXG P C an dr ops o fr H fun fr' H' => opsG P C an dr ops rest U fr' H' K
    | some (j, want) =>
      match gslot ops j with
      | some d => cnd (hasN U d) (fr d = UD ∧ opsG P C an dr ops rest (addO U o.dst) (putO fr o.dst UD) H K) <|
          aG (fr d) want (opXG P C an dr ops o (put fr d (B want)) H fun fr' H' => opsG P C an dr ops rest U fr' H' K) (opsG P C an dr ops rest (addO U o.dst) (putO (put fr d (B (!want))) o.dst UD) H K)
      | none => False

def opsMG (P : Program) (C : Cb) (an : An) (id : Nat) (ops : List Oper) (fr : Fr) (H : Hp) (K : Fr → Hp → Prop) : Prop :=
  allP (csOf an id ops.length).2 fun l => opsG P C an true ops (sel ops l) [] fr H K

def wpG (P : Program) (C : Cb) (an : An) : Code → Fr → Hp → (Fr → Hp → Prop) → (Nat → Fr → Hp → Prop) → (Fr → Hp → Prop) → Prop
  | .skip, fr, H, n, x, r => n fr H
  | .label _, fr, H, n, x, r => n fr H
  | .region id ops draw, fr, H, n, x, r => cnd draw (opsMG P C an id ops.toList fr H n) (opsG P C an false ops.toList ops.toList [] fr H n)
  | .seq a b, fr, H, n, x, r =>
    (match lkp an.jn (firstR b) with
     | none => wpG P C an a fr H (fun fr' H' => wpG P C an b fr' H' n x r) x r
     | some L => Jn (fun l H' => wpG P C an b (ofZ L l) H' n x r) fun R => wpG P C an a fr H (fun fr' H' => R (L.map fr') H') x r)
  | .cond c a b, fr, H, n, x, r => aCond (opd fr none c) (wpG P C an a fr H n x r) (wpG P C an b fr H n x r)
  | .block id c, fr, H, n, x, r => wpG P C an c fr H n (fun i fr' H' => cnd (Nat.beq i id) (n fr' H') (x i fr' H')) r
  | .loop c, fr, H, n, x, r =>
    (match lkp an.lp (firstR c) with
     | none => False
     | some L => LoopA (fun l H' K => wpG P C an c (ofZ L l) H' (fun fr' H'' => K (L.map fr') H'') x r) (L.map fr) H)
  | .exit i, fr, H, n, x, r => x i fr H
  | .ret, fr, H, n, x, r => r fr H
  | .scope c, fr, H, n, x, r => wpG P C an c fr H n x r
  | .rangeFunc g ps as body, fr, H, n, x, r =>
    C.range (opd fr none g) ps.toList.length H (fun vs H1 D K => wpG P C an as (putPs ps.toList 0 vs (nodF fr)) H1 (fun fr' H' => D H' fun H'' => wpG P C an body fr' H'' (fun _ H3 => K false H3) (fun _ _ _ => False) (fun _ H3 => K true H3)) (fun _ _ _ => False) (fun _ _ => False))
      (fun H' => n (nodF fr) H') (fun H' => r (nodF fr) H')
  | _, _, _, _, _, _ => False

def resG (P : Program) (C : Cb) (fr : Fr) (H : Hp) : List ResultVar → (List V → Prop) → Prop
  | [], K => K []
  | .tmp t :: rest, K => resG P C fr H rest fun vs => K (fr t :: vs)
  | .cell a t :: rest, K =>
    (match P.underlying t with
     | some _ => cnd (Nat.beq (szT P t) 0) False <| C.aRes (szT P t) (agT P t) (fr a) H fun v => resG P C fr H rest fun vs => K (v :: vs)
     | none => False)
def retG (P : Program) (C : Cb) (fn : Func) (R : List V → Hp → Prop) (fr : Fr) (H : Hp) : Prop := resG P C fr H fn.results.toList fun vs => R vs H

theorem effG_real (P : Program) : @effG P (real P) = @effA P := rfl
theorem effXG_real (P : Program) : @effXG P (real P) = @effX P := rfl
theorem opXG_real (P : Program) : @opXG P (real P) = @opX P := rfl
theorem opsG_real (P : Program) (an : An) (dr : Bool) (ops : List Oper) : ∀ (l : List Oper) (U : List Nat) (fr : Fr) (H : Hp) (K : Fr → Hp → Prop), opsG P (real P) an dr ops l U fr H K = opsA P an dr ops l U fr H K
  | [], _, _, _, _ => rfl
  | o :: l, U, fr, H, K => by
    simp only [opsG, opsA, opXG_real, opsG_real P an dr ops l]
    rfl
theorem wpG_real (P : Program) (an : An) : ∀ (c : Code) (fr : Fr) (H : Hp) (n : Fr → Hp → Prop) (x : Nat → Fr → Hp → Prop) (r : Fr → Hp → Prop), wpG P (real P) an c fr H n x r = wpA P an c fr H n x r := by
  intro c
  induction c with
  | seq a b iha ihb => intro fr H n x r; simp only [wpG, wpA, iha, ihb]; rfl
  | cond c a b iha ihb => intro fr H n x r; simp only [wpG, wpA, iha, ihb]
  | block id c ih => intro fr H n x r; simp only [wpG, wpA, ih]; rfl
  | loop c ih => intro fr H n x r; simp only [wpG, wpA, ih]; rfl
  | scope c ih => intro fr H n x r; simp only [wpG, wpA, ih]
  | rangeFunc g ps as body iha ihb => intro fr H n x r; simp only [wpG, wpA, iha, ihb]; rfl
  | region id ops draw => intro fr H n x r; simp only [wpG, wpA, opsMG, opsM, opsG_real]
  | _ => intro fr H n x r; rfl
theorem resG_real (P : Program) (fr : Fr) (H : Hp) : ∀ (l : List ResultVar) (K : List V → Prop), resG P (real P) fr H l K = resK P fr H l K
  | [], _ => rfl
  | .tmp t :: l, K => by simp only [resG, resK, resG_real P fr H l]
  | .cell a t :: l, K => by
    simp only [resG, resK, resG_real P fr H l]
    rfl
theorem retG_real (P : Program) (fn : Func) (R : List V → Hp → Prop) : retG P (real P) fn R = retK P fn R := by
  funext fr H
  simp only [retG, retK, resG_real]

theorem ret_mk {P : Program} {an : An} {f : Nat} {fn : Func} {c : Code} {args : List V} {H : Hp} {v : V} {H' : Hp} (hm : P.follows .mixedOrders = true) (henter : ∀ ar w, (callFunc f ar).run P w = .ok (.enter f ar) w)
    (hf : P.funcs[f]? = some fn) (hb : fn.body = some c) (hwf : (Nat.ble args.length fn.ntmps && wfC an fn.ntmps c) = true) (hd : v.Nd) (hn : H.length ≤ H'.length) (hbel : H' = H ∨ ∀ (b : Nat) (blk : Blk), H'[b]? = some blk → H[b]? = some blk ∨ BelB H'.length blk)
    (h : wpG P (real P) an c (argF args) H (retG P (real P) fn (retF v H')) (fun _ _ _ => False) (retG P (real P) fn (retF v H'))) : Ret P f args H v H' := by
  rw [wpG_real, retG_real] at h
  exact ret_of hm henter hf hb hwf hd hn hbel h
theorem ret_mko {P : Program} {an : An} {f : Nat} {fn : Func} {c : Code} {args : List V} {H : Hp} {xs : List V} {t : Nat} {H' : Hp} (hm : P.follows .mixedOrders = true) (henter : ∀ ar w, (callFunc f ar).run P w = .ok (.enter f ar) w)
    (hf : P.funcs[f]? = some fn) (hb : fn.body = some c) (hwf : (Nat.ble args.length fn.ntmps && wfC an fn.ntmps c) = true) (hres : fn.results = #[.tmp t]) (hn : H.length ≤ H'.length) (hbel : H' = H ∨ ∀ (b : Nat) (blk : Blk), H'[b]? = some blk → H[b]? = some blk ∨ BelB H'.length blk)
    (h : wpG P (real P) an c (argF args) H (retG P (real P) fn (retO xs H')) (fun _ _ _ => False) (retG P (real P) fn (retO xs H'))) : Ret P f args H (.arr xs .own) H' := by
  rw [wpG_real, retG_real] at h
  exact ret_own hm henter hf hb hwf hres hn hbel h
end Go.Ab
