/- The machinery of the proof, part 3: an abstract machine over list values, proved sound against the model, and the contracts of the functions that the law reaches. No condition. -/
import Derived.Test.YtpielcbpfbajlaaP2
import Derived.RangeFuncRecord

set_option linter.unusedVariables false
set_option linter.unusedSimpArgs false
set_option linter.unnecessarySimpa false
namespace Go.Ab
open Go
def Bf(p : List Nat)(a b : Nat) : Prop:=p.idxOf a < p.idxOf b
theorem idxOf_ne{p : List Nat}{i a : Nat}(h : i≠a) : (i::p).idxOf a=p.idxOf a+1:=by
 rw[List.idxOf_cons]
 have : (i==a)=false:=by simpa using h
 rw[this];rfl
theorem bf_cons{p : List Nat}{i a b : Nat}(h : Bf (i::p) a b)(ha : a≠i) : Bf p a b:=by
 unfold Bf at h ⊢
 have e1 : (i::p).idxOf a=p.idxOf a+1:=idxOf_ne (Ne.symm ha)
 by_cases hb : b=i
 ·subst hb
  rw[List.idxOf_cons_self]at h;omega
 ·rw[e1,idxOf_ne (Ne.symm hb)]at h;omega
theorem bf_head{p : List Nat}{i a : Nat}(h : Bf (i::p) a i) : False:=by
 unfold Bf at h
 rw[List.idxOf_cons_self]at h;omega
theorem bf_split{l1 l2 : List Nat}{j i : Nat}(hj : j ∈ l1)(hi : i ∉ l1) : Bf (l1++i::l2) j i:=by
 unfold Bf
 rw[List.idxOf_append,List.idxOf_append,if_pos hj,if_neg hi]
 have:=List.idxOf_lt_length_of_mem hj
 omega
theorem bf_mid{l1 l2 : List Nat}{i a b : Nat}(ha : a≠i)(hb : b≠i)(h : Bf (l1++l2) a b) : Bf (l1++i::l2) a b:=by
 unfold Bf at h ⊢
 rw[List.idxOf_append,List.idxOf_append]at h ⊢
 rw[idxOf_ne (Ne.symm ha),idxOf_ne (Ne.symm hb)]
 by_cases h1 : a ∈ l1
 ·rw[if_pos h1]at h ⊢
  by_cases h2 : b ∈ l1
  ·rw[if_pos h2]at h ⊢;exact h
  ·rw[if_neg h2]at h ⊢;omega
 ·rw[if_neg h1]at h ⊢
  by_cases h2 : b ∈ l1
  ·rw[if_pos h2]at h ⊢
   have:=List.idxOf_lt_length_of_mem h2
   omega
  ·rw[if_neg h2]at h ⊢;omega
theorem idx_inj{p : List Nat}{a b : Nat}(ha : a ∈ p)(h : p.idxOf a=p.idxOf b) : a=b:=by
 have hb : p.idxOf b < p.length:=by rw[← h];exact List.idxOf_lt_length_of_mem ha
 have e1 : p[p.idxOf a]'(List.idxOf_lt_length_of_mem ha)=a:=List.getElem_idxOf _
 have e2 : p[p.idxOf b]'hb=b:=List.getElem_idxOf _
 simp only[h]at e1
 rw[← e1,e2]
section
variable {P : Program}{an : An}{Q : Exit→Act→World→Prop}{r : Option Nat}{ops : List Oper}
def ASi(P : Program)(an : An)(ops : List Oper)(i : Nat)(fr : Fr)(H : Hp)(fr' : Fr)(H' : Hp) : Prop:=∃ o,ops[i]?=some o∧AS P an ops o fr H fr' H'
def stpE(P : Program)(an : An)(ops : List Oper)(o : Oper)(fr : Fr)(H : Hp)(k : Fr→Hp→Prop) : Prop:=
 match o.guard with
 |none=>opX P an true ops o fr H k
 |some (j,want)=>
  match gslot ops j with
  |some d=>(fr d=UD∧k (putO fr o.dst UD) H)∨aG (fr d) want (opX P an true ops o (put fr d (B want)) H k) (k (putO (put fr d (B (!want))) o.dst UD) H)
  |none=>False
def RunL(P : Program)(an : An)(ops : List Oper) : List Nat→Fr→Hp→(Fr→Hp→Prop)→Prop
 | [],fr,H,K=>K fr H
 |i::l,fr,H,K=>(∃ o,ops[i]?=some o∧opnO an o=true∧stpE P an ops o fr H fun fr' H'=>RunL P an ops l fr' H' K)∨∃ fr' H',ASi P an ops i fr H fr' H'∧RunL P an ops l fr' H' K
def okJ(an : An)(ops : List Oper)(j i : Nat) : Bool:=match ops[j]?,ops[i]? with|some x,some y=> !opnO an x && !opnO an y && (indep an ops x y||overA an ops x y)|_,_=>false
theorem okJ_l{j i : Nat}(h : okJ an ops j i=true){o : Oper}(ho : ops[j]?=some o) : opnO an o=false:=by
 unfold okJ at h
 rw[ho]at h
 split at h
 ·rename_i x y hx hy
  cases hx
  simp only[Bool.and_eq_true,Bool.not_eq_true']at h
  exact h.1.1
 ·cases h
theorem okJ_r{j i : Nat}(h : okJ an ops j i=true){o : Oper}(ho : ops[i]?=some o) : opnO an o=false:=by
 unfold okJ at h
 rw[ho]at h
 split at h
 ·rename_i x y hx hy
  cases hy
  simp only[Bool.and_eq_true,Bool.not_eq_true']at h
  exact h.1.2
 ·cases h
theorem ASi_jump(hopen : ∀ o,o ∈ ops→opOpen o=false){j i : Nat}(hok : okJ an ops j i=true){fr fr1 fr2 : Fr}{H H1 H2 : Hp}(h1 : ASi P an ops j fr H fr1 H1)(h2 : ASi P an ops i fr1 H1 fr2 H2) :
    ∃ fr1' H1',ASi P an ops i fr H fr1' H1'∧ASi P an ops j fr1' H1' fr2 H2:=by
  obtain⟨x,hx,h1⟩:=h1
  obtain⟨y,hy,h2⟩:=h2
  simp only[okJ,hx,hy,Bool.and_eq_true,Bool.or_eq_true]at hok
  have : ∃ fr1' H1',AS P an ops y fr H fr1' H1'∧AS P an ops x fr1' H1' fr2 H2:=by
    rcases hok.2 with h|h
    · exact AS_comm (hopen _ (List.mem_of_getElem? hx)) (hopen _ (List.mem_of_getElem? hy)) h h1 h2
    · exact AS_over (hopen _ (List.mem_of_getElem? hx)) h h1 h2
  obtain⟨fr1',H1',k1,k2⟩:=this
  exact⟨fr1',H1',⟨y,hy,k1⟩,⟨x,hx,k2⟩⟩
theorem RunL_front(hopen : ∀ o,o ∈ ops→opOpen o=false){i : Nat}{l2 : List Nat}{K : Fr→Hp→Prop}(hni : ∀ o,ops[i]?=some o→opnO an o=false) : ∀ (l1 : List Nat){fr : Fr}{H : Hp},(∀ j,j ∈ l1→okJ an ops j i=true)→RunL P an ops (l1++i::l2) fr H K→
    ∃ fr' H',ASi P an ops i fr H fr' H'∧RunL P an ops (l1++l2) fr' H' K
  | [],_,_,_,h=>by
    rcases h with ⟨o,ho,hn, -⟩|h
    · rw[hni o ho]at hn;cases hn
    · exact h
  |j::l1,fr,H,hok,h=>by
    rcases h with ⟨o,ho,hn, -⟩|h
    · rw[okJ_l (hok j (by simp)) ho]at hn;cases hn
    obtain⟨fr1,H1,a1,h1⟩:=h
    obtain⟨fr2,H2,a2,h2⟩:=RunL_front hopen hni l1 (fun k hk=>hok k (by simp[hk])) h1
    obtain⟨fr1',H1',b1,b2⟩:=ASi_jump hopen (hok j (by simp)) a1 a2
    exact⟨fr1',H1',b1,.inr ⟨fr2,H2,b2,h2⟩⟩
theorem opX_open{o : Oper}(ho : opnO an o=true)(fr : Fr)(H : Hp)(k : Fr→Hp→Prop) : opX P an true ops o fr H k=opX P an false ops o fr H k:=by
 unfold opX
 have h2 : isCIO o=true:=(Bool.and_eq_true_iff.1 ho).2
 rw[show((!true||immO an o) && isCIO o)=true from ho,show((!false||immO an o) && isCIO o)=true by rw[h2];rfl]
 rfl
theorem stpE_sound{o : Oper}{i : Nat}(hi : ops.toArray[i]?=some o)(hop : opnO an o=true) {σ w fr H}{a : Act}{K : Fr→Hp→Prop}{next : Act→World→Prop}(hst : St σ w fr a.tmps H)(hwf : wfO a.tmps.size o=true)(h : stpE P an ops o fr H K)
    (hn : ∀ σ' w' fr' x H',St σ' w' fr' (a.put o.dst x).tmps H'→Tr σ w (Own σ w fr a.tmps H) σ' w' (Own σ' w' fr' (a.put o.dst x).tmps H')→K fr' H'→next (a.put o.dst x) w') : wpOpIn (WF r) 0 P ops.toArray Q i next a w:=by
  have hdd : ∀ q,o.dst=some q→q < a.tmps.size:=by
    intro q hq
    simp only[wfO,hq,Bool.and_eq_true]at hwf
    exact(Nat.blt_eq).mp hwf.1
  rw[wpOpIn,hi]
  simp only
  have run : ∀ {fr1 : Fr}(hst1 : St σ w fr1 a.tmps H)(htr1 : ∀ rb,Own σ w fr1 a.tmps H rb→Own σ w fr a.tmps H rb),opX P an true ops o fr1 H K→o.wpIn (WF r) 0 P a w next Q:=by
    intro fr1 hst1 htr1 hx
    rw[opX_open hop]at hx
    refine opX_sound (an:=an) (ops:=ops) hst1 hwf (fun σ' w' fr' x H' hs ht hk=> ?_) hx
    exact hn σ' w' fr' x H' hs ⟨ht.toLe,ht.os,ht.output,ht.tape,ht.size,fun rb hr hlv ho=>ht.keep rb hr hlv (fun hh=>ho (htr1 rb hh)),fun rb ho hr=>htr1 rb (ht.own rb ho hr),ht.fresh⟩ hk
  unfold stpE at h
  split at h
  · rename_i hgd
    have hw : Region.wanted o (yielded ops.toArray a.tmps)=true:=by simp[Region.wanted,hgd]
    rw[if_pos hw]
    exact run hst (fun _ h=>h) h
  · rename_i j want hgd
    split at h
    · rename_i d hj
      rcases h with ⟨hfd,h⟩|h
      · have hw:=guard_undef (ops:=ops) hst hgd hj hfd
        rw[if_neg (by rw[hw];simp)]
        refine⟨fun _ _=>trivial,?_⟩
        obtain⟨s2,o2⟩:=hst.putO' (a:=a) (d:=o.dst) hdd (v:=UD) (x:=undef) (.imm _) rfl
        exact hn σ w _ undef H s2 ((Tr.refl σ w _).mono_own fun rb ho=>o2 rb ho) h
      · obtain⟨t,hfd,hA,hC⟩:=aG_true h
        have hw:=guard_real (ops:=ops) hst hgd hj hfd
        have hr:=hst.frame d
        rw[hfd]at hr
        by_cases htw : t=want
        · rw[if_pos (by rw[hw,htw];simp)]
          obtain⟨s1,o1⟩:=hst.weaken (d:=d) (v:=B want) (by rw[← htw];exact hr) rfl
          exact run s1 o1 (hA htw)
        · have htn : (!want)=t:=by cases t <;> cases want <;> simp_all
          rw[if_neg (by rw[hw];simpa using htw)]
          refine⟨fun _ _=>trivial,?_⟩
          obtain⟨s1,o1⟩:=hst.weaken (d:=d) (v:=B (!want)) (by rw[htn];exact hr) rfl
          obtain⟨s2,o2⟩:=s1.putO' (a:=a) (d:=o.dst) hdd (v:=UD) (x:=undef) (.imm _) rfl
          exact hn σ w _ undef H s2 ((Tr.refl σ w _).mono_own fun rb ho=>o1 rb (o2 rb ho)) (hC htw)
    · exact h.elim
theorem RunL_sound(hopen : ∀ o,o ∈ ops→opOpen o=false){K : Fr→Hp→Prop} : ∀ (p l : List Nat)(σ : Sg)(w : World)(fr : Fr)(H : Hp)(a : Act),p.Nodup→l.Nodup→(∀ k,k ∈ p↔k ∈ l)→
    (∀ j i,j ∈ l→i ∈ l→Bf l j i→okJ an ops j i=false→Bf p j i)→St σ w fr a.tmps H→(∀ o,o ∈ ops→wfO a.tmps.size o=true)→
    Fin σ w fr a H K (fun a' w'=>Q .normal a' w')→RunL P an ops l fr H K→wpOpsIn (WF r) 0 P ops.toArray Q p a w
  | [],l,σ,w,fr,H,a,_,_,hm,_,hst,_,hf,h=>by
    have : l= []:=by
      cases l with
      |nil=>rfl
      |cons x l=>exact absurd ((hm x).2 (by simp)) (by simp)
    subst this
    exact hf.go σ w fr a H rfl (.refl _ _ _ _ _) hst (Tr.refl _ _ _) h
  |i::p,l,σ,w,fr,H,a,hp,hl,hm,hb,hst,hwf,hf,h=>by
    obtain⟨l1,l2,rfl⟩:=List.append_of_mem ((hm i).1 (by simp))
    obtain⟨hip,hp'⟩:=List.nodup_cons.1 hp
    have hl':=List.nodup_append.1 hl
    have hi1 : i ∉ l1:=fun hi=>hl'.2.2 i hi i (by simp) rfl
    have hi2 : i ∉ l2:=(List.nodup_cons.1 hl'.2.1).1
    have hok : ∀ j,j ∈ l1→okJ an ops j i=true:=fun j hj=>by
      cases hk : okJ an ops j i with
      |true=>rfl
      |false=>exact(bf_head (hb j i (by simp[hj]) (by simp) (bf_split hj hi1) hk)).elim
    have next : ∀ (σ' : Sg)(w' : World)(fr' : Fr)(H' : Hp)(d : Option Nat)(x : Value),St σ' w' fr' (a.put d x).tmps H'→Tr σ w (Own σ w fr a.tmps H) σ' w' (Own σ' w' fr' (a.put d x).tmps H')→RunL P an ops (l1++l2) fr' H' K→wpOpsIn (WF r) 0 P ops.toArray Q p (a.put d x) w':=by
      intro σ' w' fr' H' d x hs ht hrun
      refine RunL_sound hopen p (l1++l2) σ' w' fr' H' _ hp' (hl.sublist (List.Sublist.append_left (List.sublist_cons_self i l2) l1)) (fun k=> ?_) (fun j k hj hk hbf hno=> ?_) hs (fun o' h'=>by rw[put_size];exact hwf o' h') (hf.step (put_size _ _ _) (.of_eq (put_defers _ _ _)) ht (fun _ _ h=>h)) hrun
      · have:=hm k
        simp only[List.mem_cons,List.mem_append]at this ⊢
        constructor
        · intro hk
          have hki : k≠i:=fun e=>hip (e ▸ hk)
          rcases this.1 (.inr hk)with h|h|h
          · exact .inl h
          · exact absurd h hki
          · exact .inr h
        · intro hk
          have hki : k≠i:=fun e=>hk.elim (fun h=>hi1 (e ▸ h)) (fun h=>hi2 (e ▸ h))
          rcases this.2 (by rcases hk with h|h <;> simp[h])with h|h
          · exact absurd h hki
          · exact h
      · have hji : j≠i:=fun e=>(List.mem_append.1 hj).elim (fun h=>hi1 (e ▸ h)) (fun h=>hi2 (e ▸ h))
        have hki : k≠i:=fun e=>(List.mem_append.1 hk).elim (fun h=>hi1 (e ▸ h)) (fun h=>hi2 (e ▸ h))
        have mem : ∀ {z},z ∈ l1++l2→z ∈ l1++i::l2:=fun {z} hz=>by simp only[List.mem_append,List.mem_cons]at hz ⊢;rcases hz with h|h <;> simp[h]
        exact bf_cons (hb j k (mem hj) (mem hk) (bf_mid hji hki hbf) hno) hji
    rw[wpOpsIn_cons]
    have shut : (∀ o,ops[i]?=some o→opnO an o=false)→wpOpIn (WF r) 0 P ops.toArray Q i (wpOpsIn (WF r) 0 P ops.toArray Q p) a w:=by
      intro hno
      obtain⟨fr',H',⟨o,ho,has⟩,hrun⟩:=RunL_front hopen hno l1 hok h
      exact AS_sound (by simpa using ho) hst (hwf o (List.mem_of_getElem? ho)) has (fun σ' w' x hs ht=>next σ' w' fr' H' o.dst x hs ht hrun)
    cases l1 with
    |cons j l1=>exact shut fun o ho=>okJ_r (hok j (by simp)) ho
    |nil=>
      rcases h with ⟨o,ho,hop,h⟩|⟨fr',H',⟨o,ho,has⟩,hrun⟩
      · exact stpE_sound (by simpa using ho) hop hst (hwf o (List.mem_of_getElem? ho)) h (fun σ' w' fr' x H' hs ht hk=>next σ' w' fr' H' o.dst x hs ht hk)
      · exact AS_sound (by simpa using ho) hst (hwf o (List.mem_of_getElem? ho)) has (fun σ' w' x hs ht=>next σ' w' fr' H' o.dst x hs ht hrun)
def sel(ops : List Oper) : List Nat→List Oper
 | []=> []
 |i::l=>match ops[i]? with|some o=>o::sel ops l|none=> []
theorem aCallE_mono{fv : V}{args : List V}{H : Hp}{k k' : V→Hp→Prop}(hk : ∀ v H',k v H'→k' v H')(h : aCallE P fv args H k) : aCallE P fv args H k':=by
 cases fv <;> first|exact h.elim|(obtain⟨Q,h1,h2⟩:=h;exact⟨Q,h1,fun v H' hq=>hk _ _ (h2 v H' hq)⟩)
theorem aLd_mono{size : Nat}{ag mv : Bool}{x : V}{H : Hp}{k k' : V→Hp→Prop}(hk : ∀ v H',k v H'→k' v H')(h : aLd size ag mv x H k) : aLd size ag mv x H k':=by
 unfold aLd at h ⊢
 split at h
 ·unfold ldC at h ⊢
  split at h
  ·exact⟨h.1,hk _ _ h.2⟩
  ·exact h.elim
  ·exact h.elim
  ·exact hk _ _ h
 ·split at h
  ·refine⟨h.1,?_⟩
   have h2:=h.2
   cases hb : (mv && !ag) <;> rw[hb]at h2
   ·exact hk _ _ h2
   ·exact hk _ _ h2
  ·exact h.elim
 ·exact h.elim
theorem aInvE_mono{name : String}{x : V}{args : List V}{H : Hp}{k k' : V→Hp→Prop}(hk : ∀ v H',k v H'→k' v H')(h : aInvE P name x args H k) : aInvE P name x args H k':=by
 cases x with
 |ifc t v=>
  unfold aInvE at h ⊢
  simp only at h ⊢
  split at h
  ·obtain⟨Q,h1,h2⟩:=h;exact⟨Q,h1,fun v H' hq=>hk _ _ (h2 v H' hq)⟩
  ·exact⟨h.1,h.2.1,aLd_mono (fun u H1 hc=>by obtain⟨Q,h1,h2⟩:=hc;exact⟨Q,h1,fun v H' hq=>hk _ _ (h2 v H' hq)⟩) h.2.2⟩
  ·obtain⟨Q,h1,h2⟩:=h;exact⟨Q,h1,fun v H' hq=>hk _ _ (h2 v H' hq)⟩
  ·exact h.elim
 |_=>exact h.elim
theorem callEO_mono{o : Oper}{ev : Operand→V}{H : Hp}{k k' : V→Hp→Prop}(hk : ∀ v H',k v H'→k' v H') : callEO P o ev H k→callEO P o ev H k':=by
 unfold callEO
 split
 ·exact aCallE_mono hk
 ·exact aInvE_mono hk
 ·exact fun h=>h
theorem opX_mono{o : Oper}(ho : opnO an o=true){fr : Fr}{H : Hp}{k k' : Fr→Hp→Prop}(hk : ∀ f H',k f H'→k' f H')(h : opX P an true ops o fr H k) : opX P an true ops o fr H k':=by
 unfold opX at h ⊢
 rw[show((!true||immO an o) && isCIO o)=true from ho,cond_true]at h ⊢
 exact callEO_mono (fun v H'=>hk _ _) h
theorem opsA_open{o : Oper}{rest : List Oper}{U : List Nat}{fr : Fr}{H : Hp}{K k' : Fr→Hp→Prop}(ho : opnO an o=true)(hk : ∀ U' f H',opsA P an true ops rest U' f H' K→k' f H')(h : opsA P an true ops (o::rest) U fr H K) : stpE P an ops o fr H k':=by
 rw[opsA.eq_def]at h
 simp only[Bool.not_true,Bool.false_and]at h
 replace h:=show(match o.guard with|none=>_|some (j,want)=>_) from h
 unfold stpE
 split at h
 ·exact opX_mono ho (fun f H'=>hk _ f H') h
 ·rename_i j want hgd
  split at h
  ·rename_i d hj
   simp only[hj]
   cases hU : hasN U d <;> rw[hU]at h
   rotate_left
   ·exact .inl ⟨h.1,hk _ _ _ h.2⟩
   obtain⟨t,hfd,hA,hC⟩:=aG_true h
   refine .inr ?_
   rw[hfd]
   unfold aG
   cases t <;> cases want
   ·exact opX_mono ho (fun f H'=>hk _ f H') (hA rfl)
   ·exact hk _ _ _ (hC (by decide))
   ·exact hk _ _ _ (hC (by decide))
   ·exact opX_mono ho (fun f H'=>hk _ f H') (hA rfl)
  ·exact h.elim
theorem opsA_run(hopen : ∀ o,o ∈ ops→opOpen o=false){K : Fr→Hp→Prop} : ∀ (l : List Nat)(U : List Nat)(fr : Fr)(H : Hp),(∀ i,i ∈ l→i < ops.length)→opsA P an true ops (sel ops l) U fr H K→RunL P an ops l fr H K
 | [],_,_,_,_,h=>h
 |i::l,U,fr,H,hl,h=>by
  have hin:=hl i (by simp)
  have ho : ops[i]?=some ops[i]:=List.getElem?_eq_getElem hin
  simp only[sel,ho]at h
  cases hn : opnO an ops[i] with
  |true=>exact .inl ⟨_,ho,hn,opsA_open hn (fun U' f H' h'=>opsA_run hopen l U' f H' (fun j hj=>hl j (by simp[hj])) h') h⟩
  |false=>
   obtain⟨U',fr',H',hs,hk⟩:=opsA_step (hopen _ (List.mem_of_getElem? ho)) hn h
   exact .inr ⟨fr',H',⟨_,ho,hs⟩,opsA_run hopen l U' fr' H' (fun j hj=>hl j (by simp[hj])) hk⟩
structure LinE (ops : List Oper)(p : List Nat) : Prop where
 nodup : p.Nodup
 mem : ∀ k,k ∈ p↔k < ops.length
 edge : ∀ (i : Nat)(o : Oper),ops[i]?=some o→∀ e,e ∈ o.after→Region.binds .any e=true→Bf p e.on i
theorem pigeon : ∀ (n : Nat)(ds : List Nat),ds.Nodup→(∀ k,k ∈ ds→k < n)→ds.length≤n∧(ds.length=n→∀ k,k < n→k ∈ ds)
 |0,ds,_,h=>by
  have : ds= []:=by
   cases ds with
   |nil=>rfl
   |cons x l=>exact absurd (h x (by simp)) (by omega)
  subst this
  exact⟨by simp,fun _ k hk=>by omega⟩
 |n+1,ds,hd,h=>by
  by_cases hn : n ∈ ds
  ·have hm : ∀ k,k ∈ ds.erase n↔k≠n∧k ∈ ds:=fun k=>hd.mem_erase_iff
   obtain⟨h1,h2⟩:=pigeon n (ds.erase n) (hd.erase n) (fun k hk=>by
    have:=(hm k).1 hk
    have:=h k this.2
    omega)
   have hl:=List.length_erase_of_mem hn
   have hpos : 0 < ds.length:=List.length_pos_of_mem hn
   refine⟨by omega,fun e k hk=> ?_⟩
   by_cases hkn : k=n
   ·subst hkn;exact hn
   ·exact((hm k).1 (h2 (by omega) k (by omega))).2
  ·obtain⟨h1, -⟩:=pigeon n ds hd (fun k hk=>by
    have:=h k hk
    have : k≠n:=fun e=>hn (e ▸ hk)
    omega)
   exact⟨by omega,fun e=>by omega⟩
theorem go_lin(hback : ∀ (i : Nat)(o : Oper),ops[i]?=some o→∀ e,e ∈ o.after→Region.binds .any e=true→e.on < i) : ∀ (fuel t : Nat)(listed : Array Bool)(ds : List Nat),listed.size=ops.length→
    (∀ k,k < ops.length→(listed.getD k true=true↔k ∈ ds))→ds.Nodup→(∀ k,k ∈ ds→k < ops.length)→(∀ (i : Nat)(o : Oper),i ∈ ds→ops[i]?=some o→∀ e,e ∈ o.after→Region.binds .any e=true→Bf ds e.on i)→
    ds.length+fuel=ops.length→LinE ops (ds++Region.linearise.go .any ops.toArray fuel t listed []):=by
  intro fuel
  have fin : ∀ (ds : List Nat),ds.Nodup→(∀ k,k ∈ ds→k < ops.length)→(∀ (i : Nat)(o : Oper),i ∈ ds→ops[i]?=some o→∀ e,e ∈ o.after→Region.binds .any e=true→Bf ds e.on i)→(∀ k,k < ops.length→k ∈ ds)→LinE ops ds:=fun ds h1 h2 h3 h4=>
    ⟨h1,fun k=>⟨h2 k,h4 k⟩,fun i o ho=>h3 i o (h4 i (List.getElem?_eq_some_iff.1 ho).1) ho⟩
  induction fuel with
  |zero=>
    intro t listed ds hs hl hd hlt he hc
    simp only[Region.linearise.go,List.reverse_nil,List.append_nil]
    exact fin ds hd hlt he ((pigeon _ ds hd hlt).2 (by omega))
  |succ fuel ih=>
    intro t listed ds hs hl hd hlt he hc
    simp only[Region.linearise.go]
    change LinE ops (ds++(match (Region.ready .any ops.toArray listed)[t % (Region.ready .any ops.toArray listed).length]? with
      |some i=>Region.linearise.go .any ops.toArray fuel (t / (Region.ready .any ops.toArray listed).length) (listed.setIfInBounds i true) [i]
      |none=> [].reverse))
    have gd : ∀ k,k < ops.length→listed.getD k false=listed.getD k true:=fun k hk=>by simp[hs,hk]
    cases hi : (Region.ready .any ops.toArray listed)[t % (Region.ready .any ops.toArray listed).length]? with
    |none=>
      have hnil : Region.ready .any ops.toArray listed= []:=by
        cases hr : Region.ready .any ops.toArray listed with
        |nil=>rfl
        |cons x xs=>
          rw[hr]at hi
          have hlt : t % (x::xs).length < (x::xs).length:=Nat.mod_lt _ (by simp)
          simp at hi
          simp at hlt
          omega
      simp only[List.reverse_nil,List.append_nil]
      refine fin ds hd hlt he (fun k hk=> ?_)
      induction k using Nat.strongRecOn with
      |ind k ihk=>
        cases hlk : listed.getD k true with
        |true=>exact(hl k hk).1 hlk
        |false=>
          exfalso
          have ho : ops[k]?=some ops[k]:=List.getElem?_eq_getElem hk
          have : k ∈ Region.ready .any ops.toArray listed:=mem_ready.2 ⟨hlk,ops[k],by simpa using ho,fun e he' hb=>by
            have hlt':=hback k _ ho e he' hb
            rw[gd e.on (by omega)]
            exact(hl e.on (by omega)).2 (ihk e.on hlt' (by omega))⟩
          rw[hnil]at this;cases this
    |some i=>
      have hmem:=List.mem_of_getElem? hi
      obtain⟨h0,oi,hoi,hall⟩:=mem_ready.1 hmem
      have hoi' : ops[i]?=some oi:=by simpa using hoi
      have hin : i < ops.length:=(List.getElem?_eq_some_iff.1 hoi').1
      have hids : i ∉ ds:=fun h=>by rw[(hl i hin).2 h]at h0;cases h0
      simp only[]
      rw[linearise_go_acc,List.reverse_singleton,← List.append_assoc]
      have hbi : ∀ e,e ∈ oi.after→Region.binds .any e=true→e.on ∈ ds:=fun e he' hb=>by
        have h1:=hback i oi hoi' e he' hb
        have h2:=hall e he' hb
        rw[gd e.on (by omega)]at h2
        exact(hl e.on (by omega)).1 h2
      have hbd : ∀ {a b},a ∈ ds→b ∈ ds→Bf ds a b→Bf (ds++ [i]) a b:=fun {a b} ha hb h=>by
        unfold Bf at h ⊢
        rw[List.idxOf_append,List.idxOf_append,if_pos ha,if_pos hb];exact h
      refine ih _ _ (ds++ [i]) (by simp[hs]) (fun k hk=> ?_) ?_ (fun k hk=> ?_) (fun j o hj ho e he' hb=> ?_) (by simp;omega)
      · simp only[List.mem_append,List.mem_singleton]
        by_cases hki : i=k
        · subst hki;simp[hs,hin]
        · rw[getD_set_ne true hki,hl k hk]
          exact⟨.inl,fun h=>h.resolve_right (fun e=>hki e.symm)⟩
      · exact List.nodup_append.2 ⟨hd,by simp,fun a ha b hb e=>by simp at hb;subst hb;subst e;exact hids ha⟩
      · rcases List.mem_append.1 hk with h|h
        · exact hlt k h
        · simp at h;subst h;exact hin
      · rcases List.mem_append.1 hj with h|h
        · have hon : e.on ∈ ds:=by
            have hbf:=he j o h ho e he' hb
            unfold Bf at hbf
            have:=List.idxOf_lt_length_of_mem h
            exact List.idxOf_lt_length_iff.1 (by omega)
          exact hbd hon h (he j o h ho e he' hb)
        · simp at h;subst h
          rw[hoi']at ho;cases ho
          have hon:=hbi e he' hb
          exact bf_split (l2:= []) hon hids
def maskE(acc : List Nat) : List Edge→Nat→Nat
 | [],m=>m
 |e::l,m=>maskE acc l (match Region.binds .any e with|true=>Nat.lor (Nat.lor m (Nat.shiftLeft 1 e.on)) (acc.getD e.on 0)|false=>m)
def clos : List Oper→List Nat→List Nat
 | [],acc=>acc
 |o::l,acc=>clos l (acc++ [maskE acc o.after.toList 0])
def oriented : List (Nat × Nat)→List Bool→Nat→Nat→Bool
 |(a,b)::Cs,t::bits,j,i=>(Nat.beq a j && Nat.beq b i && t)||(Nat.beq a i && Nat.beq b j && !t)||oriented Cs bits j i
 |_,_,_,_=>false
def pairsOk(an : An)(ops : List Oper)(ms : List Nat)(Cs : List (Nat × Nat))(bits : List Bool) : List Nat→Bool
 | []=>true
 |j::l=>l.all (fun i=> !Nat.beq j i && (Nat.testBit (ms.getD i 0) j||okJ an ops j i||oriented Cs bits j i)) && pairsOk an ops ms Cs bits l
def chkL(an : An)(ops : List Oper)(ms : List Nat)(Cs : List (Nat × Nat))(bits : List Bool)(l : List Nat) : Bool:=
 Nat.beq l.length ops.length && l.all (fun i=>Nat.blt i ops.length) && pairsOk an ops ms Cs bits l
def addE(ms : List Nat)(j i : Nat) : List Nat:=
 (List.range ms.length).map fun k=>match Nat.beq k i||Nat.testBit (ms.getD k 0) i with|true=>Nat.lor (Nat.lor (ms.getD k 0) (Nat.shiftLeft 1 j)) (ms.getD j 0)|false=>ms.getD k 0
def addEs : List (Nat × Nat)→List Bool→List Nat→List Nat
 |(a,b)::Cs,t::bits,ms=>addEs Cs bits (match t with|true=>addE ms a b|false=>addE ms b a)
 |_,_,ms=>ms
def cycB(ms : List Nat)(Cs : List (Nat × Nat))(bits : List Bool) : Bool:=
 (List.range ms.length).any fun k=>Nat.testBit ((addEs Cs bits (addEs Cs bits ms)).getD k 0) k
def allBits : Nat→(List Bool→Bool)→Bool
 |0,f=>f []
 |n+1,f=>allBits n (fun l=>f (true::l)) && allBits n (fun l=>f (false::l))
def csOf(an : An)(id n : Nat) : List (Nat × Nat) × List (List Nat):=
 match an.ord.find? (fun x=>Nat.beq x.1 id) with|some x=>x.2|none=>([],[List.range n])
def backB : List Oper→Nat→Bool
 | [],_=>true
 |o::l,k=>o.after.toList.all (fun e=> !Region.binds .any e||Nat.blt e.on k) && backB l (k+1)
def lexA(an : An)(id : Nat)(ops : List Oper) : Bool:=
 ops.all (fun o=> !opOpen o) && backB ops 0 && (csOf an id ops.length).1.all (fun c=> !Nat.beq c.1 c.2 && Nat.blt c.1 ops.length && Nat.blt c.2 ops.length) &&
  allBits (csOf an id ops.length).1.length fun bits=>(csOf an id ops.length).2.any (chkL an ops (clos ops []) (csOf an id ops.length).1 bits)||cycB (clos ops []) (csOf an id ops.length).1 bits
theorem allBits_spec : ∀ (n : Nat)(f : List Bool→Bool),allBits n f=true→∀ bits : List Bool,bits.length=n→f bits=true
 |0,f,h,bits,hl=>by
  have : bits= []:=List.length_eq_zero_iff.1 hl
  subst this;exact h
 |n+1,f,h,bits,hl=>by
  simp only[allBits,Bool.and_eq_true]at h
  cases bits with
  |nil=>cases hl
  |cons t bits=>
   cases t
   ·exact allBits_spec n _ h.2 bits (by simpa using hl)
   ·exact allBits_spec n _ h.1 bits (by simpa using hl)
theorem backB_spec : ∀ (l : List Oper)(k : Nat),backB l k=true→∀ (i : Nat)(o : Oper),l[i]?=some o→∀ e,e ∈ o.after→Region.binds .any e=true→e.on < k+i
 | [],_,_,_,_,h,_,_,_=>by cases h
 |o::l,k,h,i,o',ho,e,he,hb=>by
  simp only[backB,Bool.and_eq_true,List.all_eq_true]at h
  cases i with
  |zero=>
   simp at ho;subst ho
   have:=h.1 e (Array.mem_toList_iff.2 he)
   simp only[hb,Bool.not_true,Bool.false_or]at this
   exact(Nat.blt_eq).mp this
  |succ i=>
   have:=backB_spec l (k+1) h.2 i o' (by simpa using ho) e he hb
   omega
def MsOk(p : List Nat)(ms : List Nat) : Prop:=∀ k j,Nat.testBit (ms.getD k 0) j=true→Bf p j k
theorem testBit_lor(a b j : Nat) : Nat.testBit (Nat.lor a b) j=(Nat.testBit a j||Nat.testBit b j):=Nat.testBit_or a b j
theorem testBit_one(k j : Nat) : Nat.testBit (Nat.shiftLeft 1 k) j=decide (k=j):=by
 have : Nat.shiftLeft 1 k=2 ^ k:=by show 1 <<< k=2 ^ k;rw[Nat.shiftLeft_eq,Nat.one_mul]
 rw[this,Nat.testBit_two_pow]
theorem Bf.trans{p : List Nat}{a b c : Nat}(h : Bf p a b)(k : Bf p b c) : Bf p a c:=Nat.lt_trans h k
theorem maskE_ok{p : List Nat}{acc : List Nat}(ha : MsOk p acc){i : Nat} : ∀ (l : List Edge)(m : Nat),(∀ e,e ∈ l→Region.binds .any e=true→Bf p e.on i)→(∀ j,Nat.testBit m j=true→Bf p j i)→∀ j,Nat.testBit (maskE acc l m) j=true→Bf p j i
 | [],m,_,hm=>hm
 |e::l,m,he,hm=>by
  refine maskE_ok ha l _ (fun e' h'=>he e' (by simp[h'])) (fun j hj=> ?_)
  cases hb : Region.binds .any e with
  |false=>rw[hb]at hj;exact hm j hj
  |true=>
   rw[hb]at hj
   simp only[testBit_lor,testBit_one,Bool.or_eq_true,decide_eq_true_eq]at hj
   have h1:=he e (by simp) hb
   rcases hj with (hj|hj)|hj
   ·exact hm j hj
   ·subst hj;exact h1
   ·exact(ha _ _ hj).trans h1
theorem clos_ok{p : List Nat}(hp : LinE ops p) : ∀ (l : List Oper)(acc : List Nat),(∀ j,l[j]?=ops[acc.length+j]?)→MsOk p acc→MsOk p (clos l acc)
 | [],acc,_,ha=>ha
 |o::l,acc,hl,ha=>by
  have h0 : ops[acc.length]?=some o:=by simpa using (hl 0).symm
  refine clos_ok hp l _ (fun j=> ?_) (fun k j hj=> ?_)
  ·have:=hl (j+1)
   rw[List.getElem?_cons_succ]at this
   rw[this];congr 1;simp;omega
  ·rw[List.getD_eq_getElem?_getD,List.getElem?_append]at hj
   split at hj
   ·exact ha k j (by rw[List.getD_eq_getElem?_getD];exact hj)
   ·rename_i hk
    cases hd : k - acc.length with
    |zero=>
     rw[hd]at hj
     have hk' : k=acc.length:=by omega
     subst hk'
     refine maskE_ok ha o.after.toList 0 (fun e he hb=>hp.edge _ o h0 e (Array.mem_toList_iff.1 he) hb) (fun j hj=>by simp at hj) j ?_
     simpa using hj
    |succ n=>rw[hd]at hj;simp at hj
def bitsOf(p : List Nat)(Cs : List (Nat × Nat)) : List Bool:=Cs.map fun c=>decide (p.idxOf c.1 < p.idxOf c.2)
theorem oriented_ok{p : List Nat} : ∀ (Cs : List (Nat × Nat)){j i : Nat},(∀ c,c ∈ Cs→c.1 ∈ p∧c.1≠c.2)→oriented Cs (bitsOf p Cs) j i=true→Bf p j i
 | [],_,_,_,h=>by cases h
 |(a,b)::Cs,j,i,hc,h=>by
  simp only[bitsOf,List.map_cons,oriented,Bool.or_eq_true,Bool.and_eq_true,decide_eq_true_eq,Bool.not_eq_true',decide_eq_false_iff_not]at h
  rcases h with (⟨⟨h1,h2⟩,h3⟩|⟨⟨h1,h2⟩,h3⟩)|h
  ·obtain rfl:=Nat.eq_of_beq_eq_true h1
   obtain rfl:=Nat.eq_of_beq_eq_true h2
   exact h3
  ·obtain rfl:=Nat.eq_of_beq_eq_true h1
   obtain rfl:=Nat.eq_of_beq_eq_true h2
   obtain⟨m1,m2⟩:=hc (a,b) (by simp)
   have : p.idxOf a≠p.idxOf b:=fun e=>m2 (idx_inj m1 e)
   unfold Bf
   omega
  ·exact oriented_ok Cs (fun c h=>hc c (by simp[h])) h
theorem addE_ok{p ms : List Nat}{j i : Nat}(h : MsOk p ms)(hb : Bf p j i) : MsOk p (addE ms j i):=by
 intro k x hx
 unfold addE at hx
 rw[List.getD_eq_getElem?_getD,List.getElem?_map]at hx
 cases hr : (List.range ms.length)[k]? with
 |none=>rw[hr]at hx;simp at hx
 |some k'=>
  have : k'=k:=by
   have:=(List.getElem?_eq_some_iff.1 hr).2
   simpa using this.symm
  subst this
  rw[hr]at hx
  simp only[Option.map_some,Option.getD_some]at hx
  split at hx
  ·rename_i hc
   simp only[Bool.or_eq_true]at hc
   have hji : Bf p j k':=by
    rcases hc with e|e
    ·rw[Nat.eq_of_beq_eq_true e];exact hb
    ·exact hb.trans (h _ _ e)
   simp only[testBit_lor,testBit_one,Bool.or_eq_true,decide_eq_true_eq]at hx
   rcases hx with (hx|hx)|hx
   ·exact h _ _ hx
   ·subst hx;exact hji
   ·exact(h _ _ hx).trans hji
  ·exact h _ _ hx
theorem addEs_ok{p : List Nat} : ∀ (Cs : List (Nat × Nat)){ms : List Nat},(∀ c,c ∈ Cs→c.1 ∈ p∧c.1≠c.2)→MsOk p ms→MsOk p (addEs Cs (bitsOf p Cs) ms)
 | [],ms,_,h=>h
 |(a,b)::Cs,ms,hc,h=>by
  obtain⟨m1,m2⟩:=hc (a,b) (by simp)
  simp only[bitsOf,List.map_cons,addEs]
  refine addEs_ok Cs (fun c h=>hc c (by simp[h])) ?_
  by_cases hlt : p.idxOf a < p.idxOf b
  ·simp only[hlt,decide_true];exact addE_ok h hlt
  ·simp only[hlt,decide_false]
   have : p.idxOf a≠p.idxOf b:=fun e=>m2 (idx_inj m1 e)
   exact addE_ok h (show Bf p b a by unfold Bf;omega)
theorem pairsOk_ok{p ms : List Nat}{Cs : List (Nat × Nat)}(hms : MsOk p ms)(hor : ∀ {j i},oriented Cs (bitsOf p Cs) j i=true→Bf p j i) : ∀ (l : List Nat),pairsOk an ops ms Cs (bitsOf p Cs) l=true→l.Nodup∧∀ j i,j ∈ l→i ∈ l→Bf l j i→okJ an ops j i=false→Bf p j i
 | [],_=>⟨List.nodup_nil,fun j i h=>by cases h⟩
 |x::l,h=>by
  simp only[pairsOk,Bool.and_eq_true,List.all_eq_true,Bool.or_eq_true,Bool.not_eq_true']at h
  obtain⟨h1,h2⟩:=pairsOk_ok hms hor l h.2
  have hx : x ∉ l:=fun hx=>by have:=(h.1 x hx).1;rw[Nat.beq_refl]at this;cases this
  refine⟨List.nodup_cons.2 ⟨hx,h1⟩,fun j i hj hi hb hno=> ?_⟩
  by_cases hjx : j=x
  ·subst hjx
   rcases List.mem_cons.1 hi with rfl|hi
   ·exact absurd hb (Nat.lt_irrefl _)
   ·rcases(h.1 i hi).2 with (h3|h3)|h3
    ·exact hms _ _ h3
    ·rw[hno]at h3;cases h3
    ·exact hor h3
  ·rcases List.mem_cons.1 hi with rfl|hi
   ·exact(bf_head hb).elim
   ·have hj' : j ∈ l:=(List.mem_cons.1 hj).resolve_left hjx
    exact h2 j i hj' hi (bf_cons hb hjx) hno
def allP{α : Type} : List α→(α→Prop)→Prop
 | [],_=>True
 | [x],f=>f x
 |x::y::l,f=>f x∧allP (y::l) f
theorem allP_spec{α : Type} : ∀ (l : List α)(f : α→Prop),allP l f→∀ x,x ∈ l→f x
 | [],_,_,_,h=>by cases h
 | [x],f,h,y,hy=>by simp at hy;subst hy;exact h
 |x::z::l,f,h,y,hy=>by
  rcases List.mem_cons.1 hy with rfl|hy
  ·exact h.1
  ·exact allP_spec (z::l) f h.2 y hy
def opsM(P : Program)(an : An)(id : Nat)(ops : List Oper)(fr : Fr)(H : Hp)(K : Fr→Hp→Prop) : Prop:=
 allP (csOf an id ops.length).2 fun l=>opsA P an true ops (sel ops l) [] fr H K
theorem region_draw{id : Nat} {σ w fr H}{a : Act}{K : Fr→Hp→Prop}(hm : P.follows .mixedOrders=true)(hB : lexA an id ops=true)(hst : St σ w fr a.tmps H)(hwf : ∀ o,o ∈ ops→wfO a.tmps.size o=true)
    (hf : Fin σ w fr a H K (fun a' w'=>Q .normal a' w'))(h : opsM P an id ops fr H K) : (Code.region id ops.toArray true).wpIn (WF r) 0 P Q a w:=by
  simp only[lexA,Bool.and_eq_true,List.all_eq_true,Bool.not_eq_true']at hB
  obtain⟨⟨⟨hopen,hback⟩,hcs⟩,hall⟩:=hB
  have hback' : ∀ (i : Nat)(o : Oper),ops[i]?=some o→∀ e,e ∈ o.after→Region.binds .any e=true→e.on < i:=fun i o ho e he hb=>by
    have:=backB_spec ops 0 hback i o ho e he hb
    omega
  refine wpIn_region_draw fun t=> ?_
  simp only[Region.schedule,hm,Bool.true_or,if_true]
  have hlin : LinE ops (Region.linearise .any ops.toArray t):=by
    have:=go_lin hback' ops.length t (Array.replicate ops.length false) [] (by simp) (fun k hk=>by simp[hk]) List.nodup_nil (fun k hk=>by cases hk) (fun i o hi=>by cases hi) (by simp)
    simpa [Region.linearise]using this
  generalize Region.linearise .any ops.toArray t=p at hlin
  have hcs' : ∀ c,c ∈ (csOf an id ops.length).1→c.1 ∈ p∧c.1≠c.2:=fun c hc=>by
    obtain⟨⟨h1,h2⟩,h3⟩:=hcs c hc
    exact⟨(hlin.mem _).2 ((Nat.blt_eq).mp h2),fun e=>by rw[e,Nat.beq_refl]at h1;cases h1⟩
  have hms : MsOk p (clos ops []):=clos_ok hlin ops [] (fun j=>by simp) (fun k j hj=>by simp at hj)
  have hbits:=allBits_spec _ _ hall (bitsOf p (csOf an id ops.length).1) (by simp[bitsOf])
  simp only[Bool.or_eq_true,List.any_eq_true]at hbits
  rcases hbits with ⟨l,hl,hchk⟩|hcyc
  · have hrun:=allP_spec _ _ h l hl
    simp only[chkL,Bool.and_eq_true,List.all_eq_true]at hchk
    obtain⟨⟨c1,c2⟩,c3⟩:=hchk
    have c2' : ∀ i,i ∈ l→i < ops.length:=fun i hi=>(Nat.blt_eq).mp (c2 i hi)
    obtain⟨hnd,hbf⟩:=pairsOk_ok hms (fun {j i}=>oriented_ok _ hcs') l c3
    have hst':=hst.drew
    refine RunL_sound hopen p l σ w.drew fr H a hlin.nodup hnd (fun k=> ?_) hbf hst' hwf ⟨fun σ2 w2 fr2 a2 H2 h1 h2 h3 h4 h5=>hf.go σ2 w2 fr2 a2 H2 h1 h2 h3 ((Tr.drew σ w _).trans h4) h5⟩ (opsA_run hopen l [] fr H c2' hrun)
    rw[hlin.mem]
    exact⟨fun hk=>(pigeon _ l hnd c2').2 (Nat.eq_of_beq_eq_true c1) k hk,c2' k⟩
  · exfalso
    simp only[cycB,List.any_eq_true]at hcyc
    obtain⟨k, -,hk⟩:=hcyc
    exact absurd (addEs_ok _ hcs' (addEs_ok _ hcs' hms) k k hk) (Nat.lt_irrefl _)
end
end Go.Ab
namespace Go.Ab
open Go
inductive Bel (n : Nat) : V→Prop
 |junk : Bel n .junk
 |imm (x : Value) : Bel n (.imm x)
 |agg (cs : List V)(h : ∀ c,c ∈ cs→Bel n c) : Bel n (.agg cs)
 |tup (cs : List V)(h : ∀ c,c ∈ cs→Bel n c) : Bel n (.tup cs)
 |arr (xs : List V)(f : Fl)(h : ∀ c,c ∈ xs→Bel n c) : Bel n (.arr xs f)
 |sl (b off len cap s : Nat)(h : b < n) : Bel n (.sl b off len cap s)
 |ptr (b off : Nat)(h : b < n) : Bel n (.ptr b off)
 |cptr (v : V)(h : Bel n v) : Bel n (.cptr v)
 |fn (f : Nat)(cs : List V)(h : ∀ c,c ∈ cs→Bel n c) : Bel n (.fn f cs)
 |bfn (f : Nat)(cs : List V)(h : ∀ c,c ∈ cs→Bel n c) : Bel n (.bfn f cs)
 |ifc (t : Nat)(v : V)(h : Bel n v) : Bel n (.ifc t v)
 |map (b : Nat)(h : b < n) : Bel n (.map b)
 |yld (b : Nat)(h : b < n) : Bel n (.yld b)
theorem Bel.cl{n : Nat}{v c : V}(h : Bel n v)(hc : c ∈ v.cl) : Bel n c:=by
 cases h <;> simp only[V.cl,List.mem_singleton]at hc <;> try subst hc
 case agg cs h=>exact h c hc
 all_goals constructor <;> assumption
theorem bel_of_cl{n : Nat}{v : V}(h : ∀ c,c ∈ v.cl→Bel n c) : Bel n v:=by
 cases v with
 |agg cs=>exact .agg cs h
 |_=>exact h _ (by simp[V.cl])
theorem mem_flat{xs : List V}{c : V}{j : Nat}(h : (xs.flatMap V.cl)[j]?=some c) : ∃ x,x ∈ xs∧c ∈ x.cl:=by
 have:=List.mem_of_getElem? h
 rw[List.mem_flatMap]at this
 exact this
theorem Rel.bel{σ : Sg}{w : World}{v : V}{x : Value}(h : Rel σ w v x) : Bel σ.n v:=by
 have mem : ∀ {cs : List V},(∀ (i : Nat)(c : V),cs[i]?=some c→Bel σ.n c)→∀ c,c ∈ cs→Bel σ.n c:=fun h c hc=>by
  obtain⟨i,hi⟩:=List.mem_iff_getElem?.1 hc
  exact h i c hi
 induction h with
 |junk x=>exact .junk
 |imm x=>exact .imm x
 |agg cs ys hl h0 _ ih=>exact .agg cs (mem ih)
 |tup cs ys hl h0 _ ih=>exact .tup cs (mem ih)
 |arr0 f a cap hf hsp=>exact .arr _ _ (fun c hc=>by cases hc)
 |arr xs f rb off n cap s ys hne hn hc hf hs hx hcell _ ih=>
  exact .arr xs f (fun x hx=>bel_of_cl fun c hc=>mem ih c (List.mem_flatMap.2 ⟨x,hx,hc⟩))
 |sl b off len cap rc s a hb hl hrc ha=>exact .sl _ _ _ _ _ hb
 |ptr b off hb=>exact .ptr _ _ hb
 |cptr v rb off ys hv hcell _ ih=>exact .cptr v (bel_of_cl (mem ih))
 |fn f cs ys hl h0 _ ih=>exact .fn f cs (mem ih)
 |bfn f cs ys hl h0 _ ih=>exact .bfn f cs (mem ih)
 |ifc t v x hv _ ih=>exact .ifc t v ih
 |map b hb=>exact .map b hb
 |yld b hb=>exact .yld b hb
structure Cut (σ σ' : Sg) : Prop where
 n : σ'.n≤σ.n
 ρ : σ'.ρ=σ.ρ
 tip : ∀ rb,σ.tip rb≤σ'.tip rb
theorem Rel.cut{σ σ' : Sg}{w : World}(hc : Cut σ σ'){v : V}{x : Value}(h : Rel σ w v x)(hb : Bel σ'.n v) : Rel σ' w v x:=by
 induction h with
 |junk x=>exact .junk x
 |imm x=>exact .imm x
 |agg cs ys hl h0 _ ih=>cases hb with|agg _ hb=>exact .agg cs ys hl h0 fun i c hi=>ih i c hi (hb c (List.mem_of_getElem? hi))
 |tup cs ys hl h0 _ ih=>cases hb with|tup _ hb=>exact .tup cs ys hl h0 fun i c hi=>ih i c hi (hb c (List.mem_of_getElem? hi))
 |arr0 f a cap hf hsp=>exact .arr0 f a cap hf hsp
 |arr xs f rb off n cap s ys hne hn hcap hf hs hx hcell _ ih=>
  cases hb with
  |arr _ _ hb=>
   refine .arr xs f rb off n cap s ys hne hn hcap hf hs hx (fun j c hj=> ?_) (fun j c hj=>ih j c hj ?_)
   ·obtain⟨h1,h2,h3⟩:=hcell j c hj
    exact⟨Nat.lt_of_lt_of_le h1 (hc.tip rb),h2,h3⟩
   ·obtain⟨y,hy,hcy⟩:=mem_flat hj
    exact(hb y hy).cl hcy
 |sl b off len cap rc s a _ hl hrc ha=>cases hb with|sl _ _ _ _ _ hb=>exact .sl b off len cap rc s a hb hl hrc (by rw[hc.ρ];exact ha)
 |ptr b off _=>cases hb with|ptr _ _ hb=>rw[← hc.ρ];exact .ptr b off hb
 |cptr v rb off ys hv hcell _ ih=>
  cases hb with
  |cptr _ hb=>
   refine .cptr v rb off ys hv (fun j c hj=> ?_) (fun j c hj=>ih j c hj (hb.cl (List.mem_of_getElem? hj)))
   obtain⟨h1,h2,h3⟩:=hcell j c hj
   exact⟨Nat.lt_of_lt_of_le h1 (hc.tip rb),h2,h3⟩
 |fn f cs ys hl h0 _ ih=>cases hb with|fn _ _ hb=>exact .fn f cs ys hl h0 fun i c hi=>ih i c hi (hb c (List.mem_of_getElem? hi))
 |bfn f cs ys hl h0 _ ih=>cases hb with|bfn _ _ hb=>exact .bfn f cs ys hl h0 fun i c hi=>ih i c hi (hb c (List.mem_of_getElem? hi))
 |ifc t v x hv _ ih=>cases hb with|ifc _ _ hb=>exact .ifc t v x hv (ih hb)
 |map b _=>cases hb with|map _ hb=>rw[← hc.ρ];exact .map b hb
 |yld b _=>cases hb with|yld _ hb=>rw[← hc.ρ];exact .yld b hb
inductive Fz (n : Nat)(H : Hp) : V→V→Prop
  |keep (v : V)(h : Bel n v) : Fz n H v v
  |nodL (v : V)(h : Bel n v) : Fz n H v v.nodL
  |junk (v : V) : Fz n H v .junk
  |full (xs : List V)(h : Bel n (.arr xs .full)) : Fz n H (.arr xs .full) (.arr xs .no)
  |agg (cs cs' : List V)(hl : cs.length=cs'.length)(h : ∀ (i : Nat)(c c' : V),cs[i]?=some c→cs'[i]?=some c'→Fz n H c c') : Fz n H (.agg cs) (.agg cs')
  |tup (cs cs' : List V)(hl : cs.length=cs'.length)(hd : ∀ c,c ∈ cs'→c.Nd)(h : ∀ (i : Nat)(c c' : V),cs[i]?=some c→cs'[i]?=some c'→Fz n H c c') : Fz n H (.tup cs) (.tup cs')
  |fn (f : Nat)(cs cs' : List V)(hl : cs.length=cs'.length)(hd : ∀ c,c ∈ cs'→c.Nd)(h : ∀ (i : Nat)(c c' : V),cs[i]?=some c→cs'[i]?=some c'→Fz n H c c') : Fz n H (.fn f cs) (.fn f cs')
  |bfn (f : Nat)(cs cs' : List V)(hl : cs.length=cs'.length)(hd : ∀ c,c ∈ cs'→c.Nd)(h : ∀ (i : Nat)(c c' : V),cs[i]?=some c→cs'[i]?=some c'→Fz n H c c') : Fz n H (.bfn f cs) (.bfn f cs')
  |ifc (t : Nat)(v v' : V)(hd : v'.Nd)(h : Fz n H v v') : Fz n H (.ifc t v) (.ifc t v')
  |ptr (b off : Nat)(cs : List V)(v : V)(hb : n≤b)(hH : H[b]?=some (.cells cs))(hd : v.Nd)(hl : off+v.cl.length≤cs.length)(h : ∀ (j : Nat)(c c' : V),cs[off+j]?=some c→v.cl[j]?=some c'→Fz n H c c') : Fz n H (.ptr b off) (.cptr v)
  |sl0 (b off cap s0 : Nat)(f : Fl)(hf : f= .full→False) : Fz n H (.sl b off 0 cap s0) (.arr [] f)
  |sl (b off len cap s0 s : Nat)(cs xs : List V)(f : Fl)(hb : n≤b)(hH : H[b]?=some (.cells cs))(hlen : xs.length=len)(hs : 0 < s)(hx : ∀ x,x ∈ xs→x.cl.length=s∧x.Nd)(hf : f= .full→False)(hl : off+len*s≤cs.length)
      (h : ∀ (j : Nat)(c c' : V),cs[off+j]?=some c→(xs.flatMap V.cl)[j]?=some c'→Fz n H c c') : Fz n H (.sl b off len cap s0) (.arr xs f)
theorem flat_length{xs : List V}{s : Nat}(hx : ∀ x,x ∈ xs→x.cl.length=s) : (xs.flatMap V.cl).length=xs.length*s:=by
 induction xs with
 |nil=>simp
 |cons x xs ih=>
  simp only[List.flatMap_cons,List.length_append,List.length_cons]
  rw[ih (fun y hy=>hx y (by simp[hy])),hx x (by simp),Nat.add_mul];omega
theorem Fz.rel{σ σ' : Sg}{w : World}{fr : Fr}{tmps : Array Value}{H : Hp}(hst : St σ w fr tmps H)(hc : Cut σ σ')(htip : ∀ (b : Nat)(cs : List V),σ'.n≤b→H[b]?=some (.cells cs)→cs.length≤σ'.tip (σ.ρ b))
    {v v' : V}(h : Fz σ'.n H v v') : ∀ {x : Value},Rel σ w v x→Rel σ' w v' x:=by
  induction h with
  |keep v h=>exact fun hr=>hr.cut hc h
  |nodL v h=>exact fun hr=>(hr.cut hc h).nodL
  |junk v=>exact fun hr=> .junk _
  |full xs h=>
    intro x hr
    have hr:=hr.cut hc h
    cases hr with
    |arr0 f a cap hf hsp=>exact .arr0 _ a cap (by simp) hsp
    |arr xs f rb off n cap s ys hne hn hc' hf hs hx hcell h1=>exact .arr xs _ rb off n cap s ys hne hn hc' (by simp) hs hx hcell h1
  |agg cs cs' hl _ ih=>
    intro x hr
    cases hr with
    |agg _ ys hly h0 h1=>
      refine .agg cs' ys (hl.symm.trans hly) h0 fun i c' hi=> ?_
      have hlt : i < cs.length:=by rw[hl];exact(List.getElem?_eq_some_iff.1 hi).1
      have hci : cs[i]?=some cs[i]:=List.getElem?_eq_getElem hlt
      exact ih i _ c' hci hi (h1 i _ hci)
  |tup cs cs' hl hd _ ih=>
    intro x hr
    cases hr with
    |tup _ ys hly h0 h1=>
      refine .tup cs' ys (hl.symm.trans hly) (fun i c hi=>hd c (List.mem_of_getElem? hi)) fun i c' hi=> ?_
      have hlt : i < cs.length:=by rw[hl];exact(List.getElem?_eq_some_iff.1 hi).1
      have hci : cs[i]?=some cs[i]:=List.getElem?_eq_getElem hlt
      exact ih i _ c' hci hi (h1 i _ hci)
  |fn f cs cs' hl hd _ ih=>
    intro x hr
    cases hr with
    |fn _ _ ys hly h0 h1=>
      refine .fn f cs' ys (hl.symm.trans hly) (fun i c hi=>hd c (List.mem_of_getElem? hi)) fun i c' hi=> ?_
      have hlt : i < cs.length:=by rw[hl];exact(List.getElem?_eq_some_iff.1 hi).1
      have hci : cs[i]?=some cs[i]:=List.getElem?_eq_getElem hlt
      exact ih i _ c' hci hi (h1 i _ hci)
  |bfn f cs cs' hl hd _ ih=>
    intro x hr
    cases hr with
    |bfn _ _ ys hly h0 h1=>
      refine .bfn f cs' ys (hl.symm.trans hly) (fun i c hi=>hd c (List.mem_of_getElem? hi)) fun i c' hi=> ?_
      have hlt : i < cs.length:=by rw[hl];exact(List.getElem?_eq_some_iff.1 hi).1
      have hci : cs[i]?=some cs[i]:=List.getElem?_eq_getElem hlt
      exact ih i _ c' hci hi (h1 i _ hci)
  |ifc t v v' hd _ ih=>
    intro x hr
    cases hr with
    |ifc _ _ y hv h1=>exact .ifc t v' y hd (ih h1)
  |ptr b off cs v hb hH hd hl _ ih=>
    intro x hr
    cases hr with
    |ptr _ _ hbn=>
      obtain⟨ys,e,hw,hlen,hat⟩:=hst.at hH
      have hget : ∀ (j : Nat)(c' : V),v.cl[j]?=some c'→∃ c,cs[off+j]?=some c:=fun j c' hj=>
        ⟨_,List.getElem?_eq_getElem (by have:=(List.getElem?_eq_some_iff.1 hj).1;omega)⟩
      refine .cptr v (σ.ρ b) off (fun j=>ys.getD (off+j) undef) hd (fun j c' hj=> ?_) (fun j c' hj=> ?_)
      · obtain⟨c,hcj⟩:=hget j c' hj
        have h2:=hat.cell _ c hcj
        rw[Nat.zero_add]at h2
        refine⟨Nat.lt_of_lt_of_le (List.getElem?_eq_some_iff.1 hcj).1 (htip b cs hb hH),h2⟩
      · obtain⟨c,hcj⟩:=hget j c' hj
        exact ih j c c' hcj hj (hat.rel _ c hcj)
  |sl0 b off cap s0 f hf=>
    intro x hr
    cases hr with
    |sl _ _ _ _ rc _ a hbn hl hrc ha=>
      obtain⟨q,rfl, -⟩:=ha
      exact .arr0 f _ rc (fun h=>(hf h).elim) ⟨fun ad h=> .inl (by cases h;rfl),fun h=>by cases h⟩
  |sl b off len cap s0 s cs xs f hb hH hlen hs hx hf hl _ ih=>
    intro x hr
    cases hr with
    |sl _ _ _ _ rc _ a hbn hcap hrc ha=>
      obtain⟨q,rfl,hq, -⟩:=ha
      by_cases hne : xs= []
      · subst hne
        simp only[List.length_nil]at hlen
        subst hlen
        exact .arr0 f _ rc (fun h=>(hf h).elim) ⟨fun ad h=> .inl (by cases h;rfl),fun h=>by cases h⟩
      · have hpos : 0 < xs.length:=List.length_pos_iff.2 hne
        have hqo:=hq (by omega)
        subst q
        obtain⟨ys,e,hw,hle,hat⟩:=hst.at hH
        have hfl:=flat_length (fun x h=>(hx x h).1)
        have hget : ∀ (j : Nat)(c' : V),(xs.flatMap V.cl)[j]?=some c'→∃ c,cs[off+j]?=some c:=fun j c' hj=>
          ⟨_,List.getElem?_eq_getElem (by have:=(List.getElem?_eq_some_iff.1 hj).1;rw[hfl,hlen]at this;omega)⟩
        refine .arr xs f (σ.ρ b) off len rc s (fun j=>ys.getD (off+j) undef) hne hlen.symm (by omega) (fun h=>(hf h).elim) hs hx (fun j c' hj=> ?_) (fun j c' hj=> ?_)
        · obtain⟨c,hcj⟩:=hget j c' hj
          have h2:=hat.cell _ c hcj
          rw[Nat.zero_add]at h2
          exact⟨Nat.lt_of_lt_of_le (List.getElem?_eq_some_iff.1 hcj).1 (htip b cs hb hH),h2⟩
        · obtain⟨c,hcj⟩:=hget j c' hj
          exact ih j c c' hcj hj (hat.rel _ c hcj)
def BelB(n : Nat) : Blk→Prop
 | .cells cs=>∀ c,c ∈ cs→Bel n c
 | .mp es=>∀ e,e ∈ es→Bel n e.1∧Bel n e.2
 | .lp s=>∀ i,Bel n (s.fr i)
 | .dead=>True
theorem St.belB{σ w fr tmps H}(h : St σ w fr tmps H){b : Nat}{blk : Blk}(hb : H[b]?=some blk) : BelB σ.n blk:=by
 have:=h.heap b blk hb
 cases blk with
 |cells cs=>
  obtain⟨ys,e, -, -,h3⟩:=this
  intro c hc
  obtain⟨j,hj⟩:=List.mem_iff_getElem?.1 hc
  exact(h3 j c hj).1.bel
 |mp es=>
  obtain⟨ms,clock, -, -,h3⟩:=this
  intro e he
  obtain⟨j,hj⟩:=List.mem_iff_getElem?.1 he
  obtain⟨-, -,h1,h2⟩:=h3 j e.1 e.2 hj
  exact⟨h1.bel,h2.bel⟩
 |lp st=>
  obtain⟨fn,tmps,dfr, -, -,h3⟩:=this
  exact fun i=>(h3 i).2.bel
 |dead=>trivial
theorem Bel.mono{n m : Nat}(hnm : n≤m){v : V}(h : Bel n v) : Bel m v:=by
 induction h with
 |junk=>exact .junk
 |imm x=>exact .imm x
 |agg cs _ ih=>exact .agg cs ih
 |tup cs _ ih=>exact .tup cs ih
 |arr xs f _ ih=>exact .arr xs f ih
 |sl b off len cap s h=>exact .sl b off len cap s (Nat.lt_of_lt_of_le h hnm)
 |ptr b off h=>exact .ptr b off (Nat.lt_of_lt_of_le h hnm)
 |cptr v _ ih=>exact .cptr v ih
 |fn f cs _ ih=>exact .fn f cs ih
 |bfn f cs _ ih=>exact .bfn f cs ih
 |ifc t v _ ih=>exact .ifc t v ih
 |map b h=>exact .map b (Nat.lt_of_lt_of_le h hnm)
 |yld b h=>exact .yld b (Nat.lt_of_lt_of_le h hnm)
theorem BelB.mono{n m : Nat}(hnm : n≤m){blk : Blk}(h : BelB n blk) : BelB m blk:=by
 cases blk with
 |cells cs=>exact fun c hc=>(h c hc).mono hnm
 |mp es=>exact fun e he=>⟨(h e he).1.mono hnm,(h e he).2.mono hnm⟩
 |lp s=>exact fun i=>(h i).mono hnm
 |dead=>trivial
def capT(H : Hp)(b : Nat) : Nat:=match H[b]? with|some (.cells cs)=>cs.length|_=>0
theorem St.close{σ0 w0 O0 σ w fr tmps H}(h : St σ w fr tmps H)(ht : Tr σ0 w0 O0 σ w (Own σ w fr tmps H)){n : Nat}(hn0 : σ0.n≤n)(hn : n≤H.length)
    (hbel : ∀ (b : Nat)(blk : Blk),b < n→H[b]?=some blk→BelB n blk){v v' : V}{x : Value}(hr : Rel σ w v x)(hz : Fz n H v v')(hd : v'.Nd) :
    ∃ σ',St σ' w (oneF v') #[x] (H.take n)∧Tr σ0 w0 O0 σ' w (Own σ' w (oneF v') #[x] (H.take n)):=by
  classical
  let σ' : Sg:=⟨n,σ.ρ,fun rb=>if hx : ∃ b cs,n≤b∧H[b]?=some (.cells cs)∧σ.ρ b=rb then capT H (Classical.choose hx)else σ.tip rb⟩
  have uniq : ∀ {b b' cs cs'},H[b]?=some (.cells cs)→H[b']?=some (.cells cs')→σ.ρ b=σ.ρ b'→b=b':=fun h1 h2 e=>h.inj _ _ _ _ h1 trivial h2 trivial e
  have tipF : ∀ (b : Nat)(cs : List V),n≤b→H[b]?=some (.cells cs)→σ'.tip (σ.ρ b)=cs.length:=fun b cs hb hH=>by
    have hx : ∃ b' cs',n≤b'∧H[b']?=some (.cells cs')∧σ.ρ b'=σ.ρ b:=⟨b,cs,hb,hH,rfl⟩
    have : σ'.tip (σ.ρ b)=capT H (Classical.choose hx):=dif_pos hx
    obtain⟨cs',h1,h2,h3⟩:=Classical.choose_spec hx
    rw[this,uniq h2 hH h3]
    simp[capT,hH]
  have tipN : ∀ rb,(¬ ∃ b cs,n≤b∧H[b]?=some (.cells cs)∧σ.ρ b=rb)→σ'.tip rb=σ.tip rb:=fun rb hx=>dif_neg hx
  have hcut : Cut σ σ':=⟨by show n≤σ.n;rw[h.hn];exact hn,rfl,fun rb=>by
    by_cases hx : ∃ b cs,n≤b∧H[b]?=some (.cells cs)∧σ.ρ b=rb
    · obtain⟨b,cs,hb,hH,rfl⟩:=hx
      rw[h.tip0 b _ hH trivial];exact Nat.zero_le _
    · rw[tipN rb hx];exact Nat.le_refl _⟩
  have hrel : Rel σ' w v' x:=Fz.rel (σ':=σ') h hcut (fun b cs hb hH=>Nat.le_of_eq (tipF b cs hb hH).symm) hz hr
  have hget : ∀ {b : Nat}{blk : Blk},(H.take n)[b]?=some blk→b < n∧H[b]?=some blk:=fun {b blk} hb=>by
    rw[List.getElem?_take]at hb
    split at hb
    · exact⟨by assumption,hb⟩
    · cases hb
  have tipL : ∀ {b : Nat}{blk : Blk},b < n→H[b]?=some blk→blk.live→σ'.tip (σ.ρ b)=σ.tip (σ.ρ b):=fun {b blk} hb hH hl=>tipN _ (fun ⟨b',cs',h1,h2,h3⟩=>by
    have:=h.inj _ _ _ _ h2 trivial hH hl h3
    omega)
  have pl : ∀ p rb,OwnB (pv (oneF v') (H.take n) p) (px σ' w #[x] p) rb→pv (oneF v') (H.take n) p=pv fr H p∧px σ' w #[x] p=px σ w tmps p∧∃ b j cs,p= .h b j∧b < n∧H[b]?=some (.cells cs):=by
    intro p rb hp
    cases p with
    |s i j=>
      exfalso
      simp only[pv]at hp
      by_cases hi : i=0
      · subst hi;exact not_own_Nd hd hp
      · have : oneF v' i= .junk:=by
          have hb : Nat.beq i 0=false:=by cases hb : Nat.beq i 0 with
            |false=>rfl
            |true=>exact absurd (Nat.eq_of_beq_eq_true hb) hi
          simp[oneF,hb]
        rw[this]at hp
        cases j <;> exact not_own_junk hp
    |h b j=>
      obtain⟨cs,hcs⟩:=pv_h_own hp
      obtain⟨hb,hH⟩:=hget hcs
      exact⟨by simp only[pv,hcs,hH],rfl,b,j,cs,rfl,hb,hH⟩
  have ownS : ∀ rb,Own σ' w (oneF v') #[x] (H.take n) rb→Own σ w fr tmps H rb:=fun rb ⟨p,hp⟩=>by
    obtain⟨e1,e2, -⟩:=pl p rb hp
    exact⟨p,by rw[← e1,← e2];exact hp⟩
  have ownTip : ∀ rb,Own σ w fr tmps H rb→σ'.tip rb=σ.tip rb:=fun rb ⟨p,hp⟩=>tipN rb (fun ⟨b,cs,h1,h2,h3⟩=>by
    obtain⟨i1, -⟩:=h.own1 p rb hp
    exact i1 b (by rw[h.hn];exact(List.getElem?_eq_some_iff.1 h2).1) h3)
  refine⟨σ',⟨fun i=> ?_,?_,fun b blk hb=> ?_,fun b b' blk blk' hb hl hb' hl' e=> ?_,fun b hb=> ?_,fun b blk hb hl=> ?_,fun rb hrb=> ?_,fun p rb hp=> ?_,fun p q rb hp hq=> ?_⟩,?_⟩
  · by_cases hi : i=0
    · subst hi;simpa [oneF]using hrel
    · have hb : Nat.beq i 0=false:=by cases hb : Nat.beq i 0 with
        |false=>rfl
        |true=>exact absurd (Nat.eq_of_beq_eq_true hb) hi
      simp only[oneF,hb,cond_false]
      exact .junk _
  · show n=(H.take n).length
    simp;omega
  · obtain⟨hbn,hH⟩:=hget hb
    have h1:=h.heap b blk hH
    have h2:=hbel b blk hbn hH
    cases blk with
    |cells cs=>
      obtain⟨ys,e,a1,a2,a3⟩:=h1
      exact⟨ys,e,a1,a2,fun j c hj=>⟨(a3 j c hj).1.cut hcut (h2 c (List.mem_of_getElem? hj)),(a3 j c hj).2⟩⟩
    |mp es=>
      obtain⟨ms,clock,a1,a2,a3⟩:=h1
      refine⟨ms,clock,a1,a2,fun j k u hj=> ?_⟩
      obtain⟨b1,b2,b3,b4⟩:=a3 j k u hj
      have:=h2 (k,u) (List.mem_of_getElem? hj)
      exact⟨b1,b2,b3.cut hcut this.1,b4.cut hcut this.2⟩
    |lp st=>
      obtain⟨fn,tmps,dfr,a1,a2,a3⟩:=h1
      exact⟨fn,tmps,dfr,a1,a2,fun i=>⟨(a3 i).1,(a3 i).2.cut hcut (h2 i)⟩⟩
    |dead=>trivial
  · exact h.inj b b' blk blk' (hget hb).2 hl (hget hb').2 hl' e
  · have : b < n:=hb
    exact h.lt b (by rw[h.hn];omega)
  · obtain⟨hbn,hH⟩:=hget hb
    show σ'.tip (σ.ρ b)=0
    rw[tipL hbn hH hl];exact h.tip0 b blk hH hl
  · rw[tipN rb (fun ⟨b,cs,h1,h2,h3⟩=>by
      have:=h.lt b (by rw[h.hn];exact(List.getElem?_eq_some_iff.1 h2).1)
      omega)]
    exact h.tipz rb hrb
  · have hown:=ownTip rb (ownS rb ⟨p,hp⟩)
    obtain⟨e1,e2, -⟩:=pl p rb hp
    rw[e1,e2]at hp ⊢
    obtain⟨i1,i2⟩:=h.own1 p rb hp
    refine⟨fun b hb=>i1 b (by have : b < n:=hb;rw[h.hn];omega),fun xs off m cap hv hx hc=> ?_⟩
    obtain⟨j1,j0,s,ys,el,j2,j3,j4,j5⟩:=i2 xs off m cap hv hx hc
    exact⟨j1,j0,s,ys,el,j2,j3,hown.trans j4,j5⟩
  · obtain⟨e1,e2, -⟩:=pl p rb hp
    obtain⟨e3,e4, -⟩:=pl q rb hq
    exact h.own2 p q rb (by rw[← e1,← e2];exact hp) (by rw[← e3,← e4];exact hq)
  · refine⟨⟨hn0,ht.ρ,fun rb=>Nat.le_trans (ht.tip rb) (hcut.tip rb),ht.cell,ht.row⟩,ht.os,ht.output,ht.tape,ht.size,fun rb hs hlv ho=> ?_,fun rb ho hs=>ht.own rb (ownS rb ho) hs,fun b h1 h2=>ht.fresh b h1 (by have : b < n:=h2;rw[h.hn];omega)⟩
    obtain⟨e1,e2⟩:=ht.keep rb hs hlv ho
    refine⟨e1,(tipN rb (fun ⟨b,cs,h1,h2,h3⟩=> ?_)).trans e2⟩
    have hbl : b < σ.n:=by rw[h.hn];exact(List.getElem?_eq_some_iff.1 h2).1
    rcases ht.fresh b (Nat.le_trans hn0 h1) hbl with h4|h4
    · rw[h3]at h4;omega
    · rw[h3]at h4;exact hlv h4
theorem St.close_own{σ0 w0 O0 σ w fr tmps H}(h : St σ w fr tmps H)(ht : Tr σ0 w0 O0 σ w (Own σ w fr tmps H)){n : Nat}(hn0 : σ0.n≤n)(hn : n≤H.length)
    (hbel : ∀ (b : Nat)(blk : Blk),b < n→H[b]?=some blk→BelB n blk){t : Nat}{xs : List V}(hv : fr t= .arr xs .own∨fr t= .arr xs .full)(hvb : Bel n (.arr xs .own)) :
    ∃ σ',St σ' w (oneF (.arr xs .own)) #[tmps.getD t undef] (H.take n)∧Tr σ0 w0 O0 σ' w (Own σ' w (oneF (.arr xs .own)) #[tmps.getD t undef] (H.take n)):=by
  classical
  let σ' : Sg:=⟨n,σ.ρ,fun rb=>if hx : ∃ b cs,n≤b∧H[b]?=some (.cells cs)∧σ.ρ b=rb then capT H (Classical.choose hx)else σ.tip rb⟩
  have uniq : ∀ {b b' cs cs'},H[b]?=some (.cells cs)→H[b']?=some (.cells cs')→σ.ρ b=σ.ρ b'→b=b':=fun h1 h2 e=>h.inj _ _ _ _ h1 trivial h2 trivial e
  have tipF : ∀ (b : Nat)(cs : List V),n≤b→H[b]?=some (.cells cs)→σ'.tip (σ.ρ b)=cs.length:=fun b cs hb hH=>by
    have hx : ∃ b' cs',n≤b'∧H[b']?=some (.cells cs')∧σ.ρ b'=σ.ρ b:=⟨b,cs,hb,hH,rfl⟩
    have : σ'.tip (σ.ρ b)=capT H (Classical.choose hx):=dif_pos hx
    obtain⟨cs',h1,h2,h3⟩:=Classical.choose_spec hx
    rw[this,uniq h2 hH h3]
    simp[capT,hH]
  have tipN : ∀ rb,(¬ ∃ b cs,n≤b∧H[b]?=some (.cells cs)∧σ.ρ b=rb)→σ'.tip rb=σ.tip rb:=fun rb hx=>dif_neg hx
  have hcut : Cut σ σ':=⟨by show n≤σ.n;rw[h.hn];exact hn,rfl,fun rb=>by
    by_cases hx : ∃ b cs,n≤b∧H[b]?=some (.cells cs)∧σ.ρ b=rb
    · obtain⟨b,cs,hb,hH,rfl⟩:=hx
      rw[h.tip0 b _ hH trivial];exact Nat.zero_le _
    · rw[tipN rb hx];exact Nat.le_refl _⟩
  have hr0 : Rel σ w (.arr xs .own) (tmps.getD t undef):=by
    have:=h.frame t
    rcases hv with e|e <;> rw[e]at this
    · exact this
    · exact this.toOwn
  have hrel : Rel σ' w (.arr xs .own) (tmps.getD t undef):=hr0.cut hcut hvb
  have hself : ∀ j rb,OwnB (leafV (.arr xs .own) j) (leafX (tmps.getD t undef) j) rb→fr t= .arr xs .own∧j=0:=fun j rb ho=>by
    cases j with
    |succ j=>exact absurd ho not_own_junk
    |zero=>
      rcases hv with e|e
      · exact⟨e,rfl⟩
      · exfalso
        have hf:=h.frame t
        rw[e]at hf
        obtain⟨xs',off,n',cap,hv',hx',hc'⟩:=ho
        obtain⟨ad,cap',e1,e2,e3⟩:=hf.slice
        rw[e1]at hx'
        simp only[leafX,Value.slice.injEq]at hx'
        have:=e3 rfl
        omega
  have hget : ∀ {b : Nat}{blk : Blk},(H.take n)[b]?=some blk→b < n∧H[b]?=some blk:=fun {b blk} hb=>by
    rw[List.getElem?_take]at hb
    split at hb
    · exact⟨by assumption,hb⟩
    · cases hb
  have tipL : ∀ {b : Nat}{blk : Blk},b < n→H[b]?=some blk→blk.live→σ'.tip (σ.ρ b)=σ.tip (σ.ρ b):=fun {b blk} hb hH hl=>tipN _ (fun ⟨b',cs',h1,h2,h3⟩=>by
    have:=h.inj _ _ _ _ h2 trivial hH hl h3
    omega)
  let f : Pl→Pl:=fun p=>match p with| .s _ j=> .s t j|p=>p
  have pl : ∀ p rb,OwnB (pv (oneF (.arr xs .own)) (H.take n) p) (px σ' w #[tmps.getD t undef] p) rb→pv (oneF (.arr xs .own)) (H.take n) p=pv fr H (f p)∧px σ' w #[tmps.getD t undef] p=px σ w tmps (f p)∧((∃ j,p= .s 0 j)∨∃ b j,p= .h b j):=by
    intro p rb hp
    cases p with
    |s i j=>
      by_cases hi : i=0
      · subst hi
        simp only[pv,px]at hp
        have e0 : oneF (.arr xs .own) 0= .arr xs .own:=rfl
        have e1 : (#[tmps.getD t undef] : Array Value).getD 0 undef=tmps.getD t undef:=rfl
        rw[e0,e1]at hp
        obtain⟨k1,k2⟩:=hself j rb hp
        refine⟨?_,?_,.inl ⟨j,rfl⟩⟩
        · simp only[pv,f,e0,k1]
        · simp only[px,f,e1]
      · exfalso
        simp only[pv]at hp
        have : oneF (.arr xs .own) i= .junk:=by
          have hb : Nat.beq i 0=false:=by cases hb : Nat.beq i 0 with
            |false=>rfl
            |true=>exact absurd (Nat.eq_of_beq_eq_true hb) hi
          simp[oneF,hb]
        rw[this]at hp
        cases j <;> exact not_own_junk hp
    |h b j=>
      obtain⟨cs,hcs⟩:=pv_h_own hp
      obtain⟨hb,hH⟩:=hget hcs
      exact⟨by simp only[pv,hcs,hH,f],rfl,.inr ⟨b,j,rfl⟩⟩
  have ownS : ∀ rb,Own σ' w (oneF (.arr xs .own)) #[tmps.getD t undef] (H.take n) rb→Own σ w fr tmps H rb:=fun rb ⟨p,hp⟩=>by
    obtain⟨e1,e2, -⟩:=pl p rb hp
    exact⟨f p,by rw[← e1,← e2];exact hp⟩
  have ownTip : ∀ rb,Own σ w fr tmps H rb→σ'.tip rb=σ.tip rb:=fun rb ⟨p,hp⟩=>tipN rb (fun ⟨b,cs,h1,h2,h3⟩=>by
    obtain⟨i1, -⟩:=h.own1 p rb hp
    exact i1 b (by rw[h.hn];exact(List.getElem?_eq_some_iff.1 h2).1) h3)
  refine⟨σ',⟨fun i=> ?_,?_,fun b blk hb=> ?_,fun b b' blk blk' hb hl hb' hl' e=> ?_,fun b hb=> ?_,fun b blk hb hl=> ?_,fun rb hrb=> ?_,fun p rb hp=> ?_,fun p q rb hp hq=> ?_⟩,?_⟩
  · by_cases hi : i=0
    · subst hi;exact hrel
    · have hb : Nat.beq i 0=false:=by cases hb : Nat.beq i 0 with
        |false=>rfl
        |true=>exact absurd (Nat.eq_of_beq_eq_true hb) hi
      simp only[oneF,hb,cond_false]
      exact .junk _
  · show n=(H.take n).length
    simp;omega
  · obtain⟨hbn,hH⟩:=hget hb
    have h1:=h.heap b blk hH
    have h2:=hbel b blk hbn hH
    cases blk with
    |cells cs=>
      obtain⟨ys,e,a1,a2,a3⟩:=h1
      exact⟨ys,e,a1,a2,fun j c hj=>⟨(a3 j c hj).1.cut hcut (h2 c (List.mem_of_getElem? hj)),(a3 j c hj).2⟩⟩
    |mp es=>
      obtain⟨ms,clock,a1,a2,a3⟩:=h1
      refine⟨ms,clock,a1,a2,fun j k u hj=> ?_⟩
      obtain⟨b1,b2,b3,b4⟩:=a3 j k u hj
      have:=h2 (k,u) (List.mem_of_getElem? hj)
      exact⟨b1,b2,b3.cut hcut this.1,b4.cut hcut this.2⟩
    |lp st=>
      obtain⟨fn,tmps,dfr,a1,a2,a3⟩:=h1
      exact⟨fn,tmps,dfr,a1,a2,fun i=>⟨(a3 i).1,(a3 i).2.cut hcut (h2 i)⟩⟩
    |dead=>trivial
  · exact h.inj b b' blk blk' (hget hb).2 hl (hget hb').2 hl' e
  · have : b < n:=hb
    exact h.lt b (by rw[h.hn];omega)
  · obtain⟨hbn,hH⟩:=hget hb
    show σ'.tip (σ.ρ b)=0
    rw[tipL hbn hH hl];exact h.tip0 b blk hH hl
  · rw[tipN rb (fun ⟨b,cs,h1,h2,h3⟩=>by
      have:=h.lt b (by rw[h.hn];exact(List.getElem?_eq_some_iff.1 h2).1)
      omega)]
    exact h.tipz rb hrb
  · have hown:=ownTip rb (ownS rb ⟨p,hp⟩)
    obtain⟨e1,e2, -⟩:=pl p rb hp
    rw[e1,e2]at hp ⊢
    obtain⟨i1,i2⟩:=h.own1 (f p) rb hp
    refine⟨fun b hb=>i1 b (by have : b < n:=hb;rw[h.hn];omega),fun xs off m cap hv hx hc=> ?_⟩
    obtain⟨j1,j0,s,ys,el,j2,j3,j4,j5⟩:=i2 xs off m cap hv hx hc
    exact⟨j1,j0,s,ys,el,j2,j3,hown.trans j4,j5⟩
  · obtain⟨e1,e2,k1⟩:=pl p rb hp
    obtain⟨e3,e4,k2⟩:=pl q rb hq
    have hpq:=h.own2 (f p) (f q) rb (by rw[← e1,← e2];exact hp) (by rw[← e3,← e4];exact hq)
    rcases k1 with ⟨j,rfl⟩|⟨b,j,rfl⟩ <;> rcases k2 with ⟨j',rfl⟩|⟨b',j',rfl⟩
    · simp only[f,Pl.s.injEq,true_and]at hpq;rw[hpq]
    · simp[f]at hpq
    · simp[f]at hpq
    · exact hpq
  · refine⟨⟨hn0,ht.ρ,fun rb=>Nat.le_trans (ht.tip rb) (hcut.tip rb),ht.cell,ht.row⟩,ht.os,ht.output,ht.tape,ht.size,fun rb hs hlv ho=> ?_,fun rb ho hs=>ht.own rb (ownS rb ho) hs,fun b h1 h2=>ht.fresh b h1 (by have : b < n:=h2;rw[h.hn];omega)⟩
    obtain⟨e1,e2⟩:=ht.keep rb hs hlv ho
    refine⟨e1,(tipN rb (fun ⟨b,cs,h1,h2,h3⟩=> ?_)).trans e2⟩
    have hbl : b < σ.n:=by rw[h.hn];exact(List.getElem?_eq_some_iff.1 h2).1
    rcases ht.fresh b (Nat.le_trans hn0 h1) hbl with h4|h4
    · rw[h3]at h4;omega
    · rw[h3]at h4;exact hlv h4
end Go.Ab
namespace Go.Ab
open Go
section
variable {P : Program}{b : Frame}{a : Act}{k : List Item}{cs : List Frame}{w : World}{Q : Exit→Act→World→Prop}{F : Fence}{n : Nat}
theorem stepR_scope'{c : Code} : step P (lone (b.atR a (.code (.scope c)::k)) cs w)= .next (lone (b.atR a (.code c:: .inScope c::k)) cs w):=
 step_lone_go (by simp[stepG,stepG.exec,Frame.atR])
theorem stepR_inScope'{c : Code} : step P (lone (b.atR a (.inScope c::k)) cs w)= .next (lone (b.atR a k) cs w):=
 step_lone_go (by simp[stepG,stepG.exec,Frame.atR])
theorem wpIn_scope'{c : Code}(h : c.wpIn F n P (fun e a w=>(∀ l,e≠ .goto l)∧Q e a w) a w) : (Code.scope c).wpIn F n P Q a w:=by
 intro b k cs hro hb hr
 have h0 : (lone (b.atR a (.code (.scope c)::k)) cs w).fenced P F:=fenced_calm hb hr rfl
 obtain⟨e,a₁,w₁,⟨hg,hq⟩,harr⟩:=h b (.inScope c::k) cs hro hb hr
 cases e with
 |normal=>exact⟨.normal,a₁,w₁,hq,.head h0 stepR_scope' (StepsIn.trans harr (.one (fenced_calm hb hr rfl) stepR_inScope'))⟩
 |exit id=>
  have hx : exitTo id (.inScope c::k)=exitTo id k:=by simp[exitTo]
  exact⟨.exit id,a₁,w₁,hq,fun k' hk=> .head h0 stepR_scope' (harr.1 k' (by rw[hx];exact hk)),
   fun hr' hk=>let ⟨k₁,h1,h2⟩:=harr.2 hr' (by rw[hx];exact hk);⟨k₁,h1,.head h0 stepR_scope' h2⟩⟩
 |goto l=>exact absurd rfl (hg l)
 |ret=>exact⟨_,a₁,w₁,hq,.of_steps (.one h0 stepR_scope') harr⟩
 |panic ch=>exact⟨_,a₁,w₁,hq,.of_steps (.one h0 stepR_scope') harr⟩
 |outgrown=>exact⟨_,a₁,w₁,hq,.of_steps (.one h0 stepR_scope') harr⟩
end
theorem St.one{σ w fr tmps H}(h : St σ w fr tmps H){v : V}{x : Value}(hr : Rel σ w v x)(hv : v.Nd) : St σ w (oneF v) #[x] H∧∀ rb,Own σ w (oneF v) #[x] H rb→Own σ w fr tmps H rb:=by
 have e : ∀ i,oneF v i=if i=0 then v else .junk:=fun i=>by
  unfold oneF
  cases hb : Nat.beq i 0 with
  |true=>simp[Nat.eq_of_beq_eq_true hb]
  |false=>rw[if_neg (fun e=>by rw[e]at hb;cases hb)];rfl
 refine h.reframe _ _ id (fun i=> ?_) (fun i j rb ho=> ?_) (fun i i' j j' rb _ _ e=>e)
 ·rw[e]
  split
  ·rename_i hi;subst hi;exact hr
  ·exact .junk _
 ·rw[e]at ho
  split at ho
  ·exact absurd ho (not_own_Nd hv)
  ·cases j <;> exact absurd ho not_own_junk
def nodF(fr : Fr) : Fr:=fun i=>(fr i).nod
theorem St.nodF{σ w fr tmps H}(h : St σ w fr tmps H) : St σ w (nodF fr) tmps H∧∀ rb,Own σ w (Ab.nodF fr) tmps H rb→Own σ w fr tmps H rb:=
 h.reframe _ _ id (fun i=>(h.frame i).nod) (fun i j rb ho=>absurd ho (not_own_Nd (Nd_nod _))) (fun i i' j j' rb _ _ e=>e)
def putPs : List Nat→Nat→List V→Fr→Fr
 | [],_,_,fr=>fr
 |p::ps,j,vs,fr=>putPs ps (j+1) vs (put fr p (vs.getD j .junk))
theorem putPs_get{P : V→Value→Prop}(vs : List V)(ra : Array Value)(hv : ∀ j,j < vs.length→P (vs.getD j .junk) (ra.getD j undef)) : ∀ (ps : List Nat)(k : Nat)(fr : Fr)(t : Array Value),k+ps.length≤vs.length→vs.length=ra.size→
    (∀ i,P (fr i) (t.getD i undef))→(∀ p,p ∈ ps→p < t.size)→∀ i,P (putPs ps k vs fr i) (((ps.zip (ra.toList.drop k)).foldl (fun tmps (q : Nat × Value)=>tmps.setIfInBounds q.1 q.2) t).getD i undef)
  | [],k,fr,t,_,_,hf,_=>hf
  |p::ps,k,fr,t,hk,hl,hf,hp=>by
    have hlt : k < ra.size:=by simp at hk;omega
    have hd : ra.toList.drop k=ra.toList[k]'(by simpa using hlt)::ra.toList.drop (k+1):=(List.drop_eq_getElem_cons (by simpa using hlt))
    rw[hd]
    simp only[List.zip_cons_cons,List.foldl_cons]
    refine putPs_get vs ra hv ps (k+1) _ _ (by simp at hk;omega) hl (fun i=> ?_) (fun q hq=>by simpa using hp q (by simp[hq]))
    by_cases hi : i=p
    · subst hi
      rw[put_self,getD_set_self _ _ _ (hp i (by simp))]
      have:=hv k (by omega)
      simpa [Array.getD_eq_getD_getElem?,hlt]using this
    · rw[put_ne _ _ hi,getD_set_other _ _ hi];exact hf i
theorem foldl_size(l : List (Nat × Value))(t : Array Value) : (l.foldl (fun tmps (q : Nat × Value)=>tmps.setIfInBounds q.1 q.2) t).size=t.size:=by
 induction l generalizing t with
 |nil=>rfl
 |cons a l ih=>simp[ih]
def RangeA (P : Program) (f : Nat) (caps : List V) (np : Nat) (H : Hp) (stp : List V → Hp → (Hp → (Hp → Prop) → Prop) → (Bool → Hp → Prop) → Prop) (J : Bool → Hp → Prop) : Prop :=
 ∀ L : LoopState → Bool → Blk,
  (∀ (args : List V) (H1 : Hp) (Q : V → Hp → Prop), args.length = np → H1[H.length]? = some (L .ready false) →
   stp args H1 (fun H' k => H'[H.length]? = some (L .ready false) ∧ k (H'.set H.length (L .busy false))) (fun j' H' => H'[H.length]? = some (L .busy false) ∧ Q (B (!j')) (H'.set H.length (L (bif j' then .done else .ready) j'))) →
   RetYE P H.length args H1 Q) →
  (∀ st p n, H.length ≤ n → BelB n (L st p)) →
  RetE P f (.yld H.length :: caps) (H ++ [L .ready false]) fun _ H2 => ∃ st p, H2[H.length]? = some (L st p) ∧ st ≠ .busy ∧ J p (H2.set H.length .dead)
def aRange(P : Program)(fv : V)(np : Nat)(H : Hp)(stp : List V→Hp→(Hp→(Hp→Prop)→Prop)→(Bool→Hp→Prop)→Prop)(n r : Hp→Prop) : Prop:=
 match fv with| .fn f caps=>RangeA P f caps np H stp (fun p H'=>cnd p (r H') (n H'))|_=>False
theorem RangeA.exact{P : Program}{f : Nat}{caps : List V}{np : Nat}{H : Hp}{stp : List V→Hp→(Hp→(Hp→Prop)→Prop)→(Bool→Hp→Prop)→Prop}{J : Bool→Hp→Prop}
    (hm : ∀ args H1 D (K K' : Bool→Hp→Prop),(∀ j H',K j H'→K' j H')→stp args H1 D K→stp args H1 D K')
    (h : ∀ L : LoopState→Bool→Blk,
      (∀ (args : List V)(H1 : Hp)(j : Bool)(H2 : Hp),args.length=np→H1[H.length]?=some (L .ready false)→
        stp args H1 (fun H' k=>H'[H.length]?=some (L .ready false)∧k (H'.set H.length (L .busy false))) (fun j' H'=>j'=j∧H'[H.length]?=some (L .busy false)∧H2=H'.set H.length (L (bif j then .done else .ready) j))→
        RetY P H.length args H1 (B (!j)) H2)→
      (∀ st p n,H.length≤n→BelB n (L st p))→
      ∃ v H2 st p,Ret P f (.yld H.length::caps) (H++ [L .ready false]) v H2∧H2[H.length]?=some (L st p)∧st≠ .busy∧J p (H2.set H.length .dead)) : RangeA P f caps np H stp J:=by
  intro L hY hB
  obtain⟨v,H2,st,p,h1,h2,h3,h4⟩:=h L (fun args H1 j H2 e1 e2 e3=>RetY_of (hY args H1 _ e1 e2 (hm _ _ _ _ _ (fun j' H' ⟨q1,q2,q3⟩=>by subst q1 q3;exact⟨q2,rfl,rfl⟩) e3))) hB
  exact⟨h1.1,fun σ w ra g1 g2 g3=>(h1.2 σ w ra g1 g2 g3).mono fun e w' hx=>⟨v,H2,⟨st,p,h2,h3,h4⟩,hx⟩⟩
def idx? : List Nat→Nat→Option Nat
 | [],_=>none
 |k::L,i=>bif Nat.beq k i then some 0 else(idx? L i).map (·+1)
def ofZ(L : List Nat)(l : List V) : Fr:=fun i=>match idx? L i with|some j=>l.getD j .junk|none=> .junk
def lkp : List (Nat × List Nat)→Nat→Option (List Nat)
 | [],_=>none
 |(k,L)::rest,i=>bif Nat.beq k i then some L else lkp rest i
def firstR : Code→Nat
 | .region id _ _=>id
 | .seq a b=>bif Nat.beq (firstR a) 1000000 then firstR b else firstR a
 | .cond _ a b=>bif Nat.beq (firstR a) 1000000 then firstR b else firstR a
 | .block _ c=>firstR c
 | .loop c=>firstR c
 | .scope c=>firstR c
 |_=>1000000
def aCond(v : V)(A C : Prop) : Prop:=match v with| .imm (.bool t)=>cond t A C|_=>False
def Jn(rest : List V→Hp→Prop)(body : (List V→Hp→Prop)→Prop) : Prop:=body rest
def LoopA(step : List V→Hp→(List V→Hp→Prop)→Prop)(l : List V)(H : Hp) : Prop:=
 ∃ (S : Type)(I : S→Prop)(vl : S→List V)(hp : S→Hp)(μ : S→Nat),(∃ s,I s∧vl s=l∧hp s=H)∧
  ∀ s,I s→step (vl s) (hp s) fun l' H'=>∃ s',I s'∧vl s'=l'∧hp s'=H'∧μ s' < μ s
def wpA (P : Program) (an : An) : Code → Fr → Hp → (Fr → Hp → Prop) → (Nat → Fr → Hp → Prop) → (Fr → Hp → Prop) → Prop
  | .skip, fr, H, n, x, r => n fr H
  | .label _, fr, H, n, x, r => n fr H
  | .region id ops draw, fr, H, n, x, r => cnd draw (opsM P an id ops.toList fr H n) (opsA P an false ops.toList ops.toList [] fr H n)
  | .seq a b, fr, H, n, x, r =>
    (match lkp an.jn (firstR b) with
     | none => wpA P an a fr H (fun fr' H' => wpA P an b fr' H' n x r) x r
     | some L => Jn (fun l H' => wpA P an b (ofZ L l) H' n x r) fun R => wpA P an a fr H (fun fr' H' => R (L.map fr') H') x r)
  | .cond c a b, fr, H, n, x, r => aCond (opd fr none c) (wpA P an a fr H n x r) (wpA P an b fr H n x r)
  | .block id c, fr, H, n, x, r => wpA P an c fr H n (fun i fr' H' => bif Nat.beq i id then n fr' H' else x i fr' H') r
  | .loop c, fr, H, n, x, r =>
    (match lkp an.lp (firstR c) with
     | none => False
     | some L => LoopA (fun l H' K => wpA P an c (ofZ L l) H' (fun fr' H'' => K (L.map fr') H'') x r) (L.map fr) H)
  | .exit i, fr, H, n, x, r => x i fr H
  | .ret, fr, H, n, x, r => r fr H
  | .scope c, fr, H, n, x, r => wpA P an c fr H n x r
  | .rangeFunc g ps as body, fr, H, n, x, r =>
    aRange P (opd fr none g) ps.toList.length H (fun vs H1 D K => wpA P an as (putPs ps.toList 0 vs (nodF fr)) H1 (fun fr' H' => D H' fun H'' => wpA P an body fr' H'' (fun _ H3 => K false H3) (fun _ _ _ => False) (fun _ H3 => K true H3)) (fun _ _ _ => False) (fun _ _ => False))
      (fun H' => n (nodF fr) H') (fun H' => r (nodF fr) H')
  | _, _, _, _, _, _ => False
def noRF : Code→Bool
 | .seq a b=>noRF a && noRF b
 | .cond _ a b=>noRF a && noRF b
 | .block _ c=>noRF c
 | .loop c=>noRF c
 | .scope c=>noRF c
 | .rangeFunc ..=>false
 |_=>true
def wfC(an : An)(nt : Nat) : Code→Bool
 | .region id ops draw=>ops.toList.all (wfO nt) && (bif draw then lexA an id ops.toList else true)
 | .seq a b=>wfC an nt a && wfC an nt b
 | .cond _ a b=>wfC an nt a && wfC an nt b
 | .block _ c=>wfC an nt c
 | .loop c=>wfC an nt c
 | .scope c=>wfC an nt c
 | .rangeFunc g ps as body=>noRF as && noRF body && wfC an nt as && wfC an nt body && ps.toList.all (fun p=>Nat.blt p nt)
 |_=>true
theorem exists_least(p : Nat→Prop)(h : ∃ m,p m) : ∃ m,p m∧∀ k,p k→m≤k:=by
 obtain⟨m,hm⟩:=h
 induction m using Nat.strongRecOn with
 |ind m ih=>
  by_cases hx : ∃ k,k < m∧p k
  ·obtain⟨k,hk,hp⟩:=hx
   exact ih k hk hp
  ·exact⟨m,hm,fun k hk=>Nat.le_of_not_lt fun hlt=>hx ⟨k,hlt,hk⟩⟩
theorem idx_get : ∀ (L : List Nat)(i j : Nat),idx? L i=some j→L[j]?=some i
 | [],_,_,h=>by cases h
 |k::L,i,j,h=>by
  simp only[idx?]at h
  cases hb : Nat.beq k i <;> rw[hb]at h
  ·rw[cond_false,Option.map_eq_some_iff]at h
   obtain⟨j',h1,rfl⟩:=h
   rw[List.getElem?_cons_succ];exact idx_get L i j' h1
  ·rw[cond_true]at h
   cases h
   rw[Nat.eq_of_beq_eq_true hb];rfl
theorem ofZ_map(fr : Fr)(i : Nat)(L : List Nat) : ofZ L (L.map fr) i=fr i∨ofZ L (L.map fr) i= .junk:=by
 unfold ofZ
 cases h : idx? L i with
 |none=>exact .inr rfl
 |some j=>
  have:=idx_get L i j h
  refine .inl ?_
  simp[List.getD_eq_getElem?_getD,List.getElem?_map,this]
theorem St.restrict{σ w fr tmps H}(h : St σ w fr tmps H)(L : List Nat) : St σ w (ofZ L (L.map fr)) tmps H∧∀ rb,Own σ w (ofZ L (L.map fr)) tmps H rb→Own σ w fr tmps H rb:=by
 refine h.reframe _ _ id (fun i=> ?_) (fun i j rb ho=> ?_) (fun i i' j j' rb _ _ e=>e)
 ·rcases ofZ_map fr i L with e|e <;> rw[e]
  ·exact h.frame i
  ·exact .junk _
 ·rcases ofZ_map fr i L with e|e
  ·rw[e];exact⟨rfl,rfl⟩
  ·rw[e]at ho;cases j <;> exact absurd ho not_own_junk
section
variable {P : Program}{an : An}
theorem Fin.le{σ w fr a H K next}{K' : Fr→Hp→Prop}(h : Fin σ w fr a H K next)(hk : ∀ f h,K' f h→K f h) : Fin σ w fr a H K' next:=
 ⟨fun σ2 w2 fr2 a2 H2 h1 h2 h3 h4 h5=>h.go σ2 w2 fr2 a2 H2 h1 h2 h3 h4 (hk _ _ h5)⟩
theorem Fin.next{σ w fr a H K next next'}(h : Fin σ w fr a H K next)(hk : ∀ a w,next a w→next' a w) : Fin σ w fr a H K next':=
 ⟨fun σ2 w2 fr2 a2 H2 h1 h2 h3 h4 h5=>hk _ _ (h.go σ2 w2 fr2 a2 H2 h1 h2 h3 h4 h5)⟩
theorem Fin.no{σ w fr a H}{K : Fr→Hp→Prop}{next : Act→World→Prop}(h : ∀ f H,¬ K f H) : Fin σ w fr a H K next:=⟨fun _ _ _ _ _ _ _ _ _ hk=>absurd hk (h _ _)⟩
def Snd(P : Program)(an : An)(c : Code) : Prop:=∀ {r : Option Nat}{σ : Sg}{w : World}{fr : Fr}{H : Hp}{a : Act}{n : Fr→Hp→Prop}{x : Nat→Fr→Hp→Prop}{rr : Fr→Hp→Prop}{Q : Exit→Act→World→Prop},
    (r=none∨noRF c=true)→St σ w fr a.tmps H→wfC an a.tmps.size c=true→Fin σ w fr a H n (fun a' w'=>Q .normal a' w')→(∀ i,Fin σ w fr a H (x i) (fun a' w'=>Q (.exit i) a' w'))→Fin σ w fr a H rr (fun a' w'=>Q .ret a' w')→
    wpA P an c fr H n x rr→c.wpIn (WF r) 0 P Q a w
def LB(ps : Array Tmp)(as body : Code)(fr : Fr)(nt : Nat)(st : LoopState)(p : Bool) : Blk:= .lp ⟨st,bif p then some .ret else none,ps,as,body,fr,nt⟩
theorem retY_of{ps : Array Tmp}{as body : Code}{frL : Fr}{nt : Nat}(hnd : ∀ i,(frL i).Nd)(sa : Snd P an as)(sb : Snd P an body)(na : noRF as=true)(nb : noRF body=true)(wa : wfC an nt as=true)(wb : wfC an nt body=true)
    (hps : ∀ p,p ∈ ps.toList→p < nt){b : Nat}{args : List V}{H1 : Hp}{QY : V→Hp→Prop}(hl : args.length=ps.toList.length)(hb : H1[b]?=some (LB ps as body frL nt .ready false))
    (h : wpA P an as (putPs ps.toList 0 args frL) H1 (fun fr' H'=>H'[b]?=some (LB ps as body frL nt .ready false)∧wpA P an body fr' (H'.set b (LB ps as body frL nt .busy false))
      (fun _ H3=>H3[b]?=some (LB ps as body frL nt .busy false)∧QY (B (!false)) (H3.set b (LB ps as body frL nt (bif false then .done else .ready) false))) (fun _ _ _=>False)
      (fun _ H3=>H3[b]?=some (LB ps as body frL nt .busy false)∧QY (B (!true)) (H3.set b (LB ps as body frL nt (bif true then .done else .ready) true)))) (fun _ _ _=>False) (fun _ _=>False)) : RetYE P b args H1 QY:=by
  intro σ w ra hlen hst hnda
  obtain⟨fn,tmps,dfr,h1,h2,h3⟩:=hst.heap b _ hb
  have hrs : ra.size=ps.size:=by rw[← hlen,hl];simp
  have hnt : tmps.size=nt:=h2
  refine⟨fn,_,as,body,run_yield h1 hrs,fun r=>roundIn_of_wpIn trivial ?_⟩
  have hfold : (ps.zip ra).foldl (fun tmps (t,a)=>tmps.setIfInBounds t a) tmps=(ps.toList.zip (ra.toList.drop 0)).foldl (fun tmps (q : Nat × Value)=>tmps.setIfInBounds q.1 q.2) tmps:=by
    rw[← Array.foldl_toList];simp
  have hsz : ((ps.zip ra).foldl (fun tmps (t,a)=>tmps.setIfInBounds t a) tmps).size=nt:=by rw[hfold,foldl_size];exact h2
  have hfr : ∀ i,(putPs ps.toList 0 args frL i).Nd∧Rel σ w (putPs ps.toList 0 args frL i) (((ps.zip ra).foldl (fun tmps (t,a)=>tmps.setIfInBounds t a) tmps).getD i undef):=by
    rw[hfold]
    refine putPs_get (P:=fun v x=>v.Nd∧Rel σ w v x) args ra (fun j hj=> ?_) ps.toList 0 frL tmps (by omega) hlen h3 (fun p hp=>by rw[hnt];exact hps p hp)
    have:=hst.frame j
    refine⟨?_,this⟩
    rw[List.getD_eq_getElem?_getD,List.getElem?_eq_getElem hj]
    exact hnda _ (List.getElem_mem hj)
  generalize hT : (ps.zip ra).foldl (fun tmps (t,a)=>tmps.setIfInBounds t a) tmps=T at hsz hfr
  obtain⟨s0,o0⟩:=hst.reframe (putPs ps.toList 0 args frL) T id (fun i=>(hfr i).2) (fun i j rb ho=>absurd ho (not_own_Nd (hfr i).1)) (fun i i' j j' rb _ _ e=>e)
  refine sa (r:=some (σ.ρ b)) (.inr na) (a:={tmps:=T,defers:= []}) s0 (by rw[hsz];exact wa) ⟨fun σ1 w1 fr1 a1 Ha e1 d1 s1 t1 k1=> ?_⟩ (fun i=> .no fun _ _ h=>h) (.no fun _ _ h=>h) h
  obtain⟨k0,k1⟩:=k1
  have hbn : b < σ.n:=by rw[hst.hn];exact(List.getElem?_eq_some_iff.1 hb).1
  have hρ1 : σ1.ρ b=σ.ρ b:=t1.ρ b hbn
  obtain⟨fn1,tm1,df1,g1,g2,g3⟩:=s1.heap b _ k0
  rw[hρ1]at g1
  refine⟨_,run_beginRound g1 rfl,?_⟩
  obtain⟨s2,t2⟩:=s1.set_blk k0 trivial (fun cs e=>by cases e) (nb:=LB ps as body frL nt .busy false) (fun cs e=>by cases e) (.loop {state:= .busy,pending:=none,fn:=fn1,tmps:=tm1,params:=ps,assign:=as,body:=body,defers:=df1})
    (fun w' hw hle=>⟨fn1,tm1,df1,hw,g2,fun i=>⟨(g3 i).1,(g3 i).2.mono hle⟩⟩)
  rw[hρ1]at s2 t2
  have fin : ∀ {σ3 w3 fr3}{a3 : Act}{H3 : Hp}(jj : Bool),St σ3 w3 fr3 a3.tmps H3→Tr σ1 (w1.putObj (σ.ρ b) (.loop {state:= .busy,pending:=none,fn:=fn1,tmps:=tm1,params:=ps,assign:=as,body:=body,defers:=df1})) (Own σ1 (w1.putObj (σ.ρ b) (.loop {state:= .busy,pending:=none,fn:=fn1,tmps:=tm1,params:=ps,assign:=as,body:=body,defers:=df1})) fr1 a1.tmps (Ha.set b (LB ps as body frL nt .busy false))) σ3 w3 (Own σ3 w3 fr3 a3.tmps H3)→
      H3[b]?=some (LB ps as body frL nt .busy false)→QY (B (!jj)) (H3.set b (LB ps as body frL nt (bif jj then .done else .ready) jj))→
      ∃ v w',(Instr.endRound (σ.ρ b) (bif jj then some .ret else none)).run P w3= .ok v w'∧∃ vv H2,QY vv H2∧∃ x σ',Ending.returned v= .returned x∧St σ' w' (oneF vv) #[x] H2∧Tr σ w (Own σ w (argF args) ra H1) σ' w' (Own σ' w' (oneF vv) #[x] H2):=by
    intro σ3 w3 fr3 a3 H3 jj s3 t3 hb3 hQ
    have hρ3 : σ3.ρ b=σ.ρ b:=(t3.ρ b (Nat.lt_of_lt_of_le hbn t1.n)).trans hρ1
    obtain⟨fn3,tm3,df3,q1,q2,q3⟩:=s3.heap b _ hb3
    rw[hρ3]at q1
    refine⟨_,_,run_endRound _ q1,_,_,hQ,_,σ3,rfl,?_⟩
    obtain⟨s4,t4⟩:=s3.set_blk hb3 trivial (fun cs e=>by cases e) (nb:=LB ps as body frL nt (bif jj then .done else .ready) jj) (fun cs e=>by cases e)
      (.loop {state:=if (bif jj then some Code.ret else none).isNone then .ready else .done,pending:=bif jj then some .ret else none,fn:=fn3,tmps:=tm3,params:=ps,assign:=as,body:=body,defers:=df3})
      (fun w' hw hle=>⟨fn3,tm3,df3,by rw[hw];cases jj <;> rfl,q2,fun i=>⟨(q3 i).1,(q3 i).2.mono hle⟩⟩)
    rw[hρ3]at s4 t4
    obtain⟨s5,o5⟩:=s4.one (v:=B (!jj)) (x:= .bool (bif jj then some Code.ret else none).isNone) (by cases jj <;> exact .imm _) rfl
    exact⟨s5,((((t1.mono_in o0).trans t2).trans t3).trans t4).mono_own o5⟩
  refine sb (r:=some (σ.ρ b)) (.inr nb) (a:=a1) s2 (by rw[e1,hsz];exact wb) ⟨fun σ3 w3 fr3 a3 H3 e3 d3 s3 t3 k3=> ?_⟩ (fun i=> .no fun _ _ h=>h) ⟨fun σ3 w3 fr3 a3 H3 e3 d3 s3 t3 k3=> ?_⟩ k1
  · exact fin false s3 t3 k3.1 k3.2
  · exact fin true s3 t3 k3.1 k3.2
theorem range_sound{ps : Array Tmp}{as body : Code}{g : Operand}(sa : Snd P an as)(sb : Snd P an body){σ : Sg}{w : World}{fr : Fr}{H : Hp}{a : Act}{n : Fr→Hp→Prop}{rr : Fr→Hp→Prop}{Q : Exit→Act→World→Prop}
    (hst : St σ w fr a.tmps H)(hwf : wfC an a.tmps.size (.rangeFunc g ps as body)=true)(hn : Fin σ w fr a H n (fun a' w'=>Q .normal a' w'))(hrr : Fin σ w fr a H rr (fun a' w'=>Q .ret a' w'))
    (h : aRange P (opd fr none g) ps.toList.length H (fun vs H1 D K=>wpA P an as (putPs ps.toList 0 vs (nodF fr)) H1 (fun fr' H'=>D H' fun H''=>wpA P an body fr' H'' (fun _ H3=>K false H3) (fun _ _ _=>False) (fun _ H3=>K true H3)) (fun _ _ _=>False) (fun _ _=>False))
      (fun H'=>n (nodF fr) H') (fun H'=>rr (nodF fr) H')) : (Code.rangeFunc g ps as body).wpIn (WF none) 0 P Q a w:=by
  simp only[wfC,Bool.and_eq_true,List.all_eq_true]at hwf
  obtain⟨⟨⟨⟨na,nb⟩,wa⟩,wb⟩,hps⟩:=hwf
  refine wpIn_rangeFunc (fun fn _=> ?_)
  obtain⟨sN,oN⟩:=hst.nodF
  unfold aRange at h
  split at h
  rotate_left
  · exact h.elim
  rename_i f caps hg
  have ef:=opd_rel hst none g
  have egn:=opd_Nd fr g
  rw[hg]at ef egn
  obtain⟨s1,o1,t1⟩:=sN.alloc_seal (.deferred (some [])) 0
  have hsz1 : (w.alloc (.deferred (some []))).heap.size=w.heap.size+1:=by simp
  obtain⟨s2,t2⟩:=s1.alloc_blk (.loop {state:= .ready,pending:=none,fn,tmps:=a.tmps,params:=ps,assign:=as,body:=body,defers:=w.heap.size}) (LB ps as body (nodF fr) a.tmps.size .ready false)
    (fun σ' w' hle hw=>⟨fn,a.tmps,w.heap.size,hw,rfl,fun i=>⟨Nd_nod _,(s1.frame i).mono hle⟩⟩) (fun cs e=>by cases e)
  rw[hsz1]at s2 t2
  have hHn : (σ.shutB w.heap.size 0).n=H.length:=s1.hn
  have hρ : ((σ.shutB w.heap.size 0).push (w.heap.size+1)).ρ H.length=w.heap.size+1:=by
    show(if H.length=(σ.shutB w.heap.size 0).n then _ else _)=_
    rw[if_pos hHn.symm]
  have hbel : ∀ i,Bel H.length (nodF fr i):=fun i=>by
    have:=(s1.frame i).bel
    rw[hHn]at this
    exact this
  generalize hσ2 : (σ.shutB w.heap.size 0).push (w.heap.size+1)=σ2 at s2 t2 hρ
  have hn2 : σ2.n=H.length+1:=by rw[s2.hn];simp
  have hw2d : ((w.alloc (.deferred (some []))).alloc (.loop {state:= .ready,pending:=none,fn,tmps:=a.tmps,params:=ps,assign:=as,body:=body,defers:=w.heap.size})).heap[w.heap.size]?=some (.deferred (some [])):=
    (heap_alloc_lt _ _ (by rw[hsz1];omega)).trans (heap_alloc_new' w _)
  generalize hw2 : (w.alloc (.deferred (some []))).alloc (.loop {state:= .ready,pending:=none,fn,tmps:=a.tmps,params:=ps,assign:=as,body:=body,defers:=w.heap.size})=w2 at s2 t2 hw2d
  have hret:=h (LB ps as body (nodF fr) a.tmps.size)
    (fun args H1 QY e1 e2 e3=>retY_of (fun i=>Nd_nod _) sa sb na nb wa wb (fun q hq=>(Nat.blt_eq).mp (hps q hq)) e1 e2 e3)
    (fun st p m hm i=>(hbel i).mono hm)
  have hnotown : ¬ Own σ2 w2 (nodF fr) a.tmps (H++ [LB ps as body (nodF fr) a.tmps.size .ready false]) w.heap.size:=fun ho=>by
    have h1:=t2.own _ ho (by rw[hsz1];omega)
    have:=sN.own_lt (o1 _ h1)
    omega
  have hnotlv : ¬ Lv σ2 w.heap.size:=fun ⟨b,hb,e⟩=>by
    by_cases hbn : b < H.length
    · have e2 : σ2.ρ b=σ.ρ b:=t2.ρ b (by rw[hHn];exact hbn)
      have:=hst.lt b (by rw[hst.hn];exact hbn)
      omega
    · have : b=H.length:=by omega
      subst this
      rw[hρ]at e;omega
  have d2 : Dfr w a.defers σ2 w2 (Own σ2 w2 (nodF fr) a.tmps (H++ [LB ps as body (nodF fr) a.tmps.size .ready false])) ([coll w.heap.size]++a.defers):=
    ⟨[w.heap.size],rfl,by simp,fun r hr=>by
      simp only[List.mem_singleton]at hr
      subst hr
      exact⟨Nat.le_refl _,hw2d,hnotlv,hnotown⟩⟩
  have t02 : Tr σ w (Own σ w fr a.tmps H) σ2 w2 (Own σ2 w2 (nodF fr) a.tmps (H++ [LB ps as body (nodF fr) a.tmps.size .ready false])):=(t1.mono_in oN).trans t2
  generalize hav : a.eval g=av at ef
  cases ef with
  |fn _ _ ys hl h0 h1=>
    have hlen : (V.yld H.length::caps).length=(#[Value.func (.yield (w.heap.size+1)) #[] #[]]++ys).size:=by simp[hl];omega
    have hrel : ∀ (i : Nat)(v : V),(V.yld H.length::caps)[i]?=some v→Rel σ2 w2 v ((#[Value.func (.yield (w.heap.size+1)) #[] #[]]++ys).getD i undef):=by
      intro i v hi
      cases i with
      |zero=>
        simp at hi;subst hi
        have:=Rel.yld (σ:=σ2) (w:=w2) H.length (by omega)
        rw[hρ]at this
        rw[Array.getD_eq_getD_getElem?,Array.getElem?_append_left (by simp)]
        exact this
      |succ i=>
        have:=(h1 i v (by simpa using hi)).mono t02.toLe
        have e : (#[Value.func (.yield (w.heap.size+1)) #[] #[]]++ys).getD (i+1) undef=ys.getD i undef:=by
          rw[Array.getD_eq_getD_getElem?,Array.getElem?_append_right (by simp)];simp[Array.getD_eq_getD_getElem?]
        rw[e];exact this
    have hnds : ∀ v,v ∈ (V.yld H.length::caps)→v.Nd:=by
      intro v hv
      rcases List.mem_cons.1 hv with rfl|hv
      · rfl
      · obtain⟨i,hi,rfl⟩:=List.getElem_of_mem hv
        exact h0 i _ (List.getElem?_eq_getElem hi)
    obtain⟨s3,o3⟩:=s2.args _ _ hlen hrel hnds
    have hcf:=hret.1 (#[Value.func (.yield (w.heap.size+1)) #[] #[]]++ys) w2
    refine⟨w.heap.size+1,[coll w.heap.size],w2,{target:= .fn (.func f) ys,args:=#[.func (.yield (w.heap.size+1)) #[] #[]]},w2,f,#[Value.func (.yield (w.heap.size+1)) #[] #[]]++ys,w2,?_,?_,fun _ _=>trivial,?_,fun h=>by simp[WF,Fence.wide]at h,callsIn_WF ((hret.2 σ2 w2 _ hlen s3 hnds).mono fun e w3 he=> ?_)⟩
    · rw[← hw2];exact run_enterLoop_outer fn a.tmps ps as body
    · rw[show resolve a.eval (rangeCall g (w.heap.size+1)) 0=Deferred.ofValue (a.eval g) (#[Operand.const (.func (.yield (w.heap.size+1)) #[] #[])].map a.eval) from rfl,hav]
      simp[Deferred.ofValue,Act.eval]
    · simp[invoke,hcf]
    · obtain⟨v,H2,⟨st,p,hb2,hst2,hJ⟩,x,σ3,rfl,s4,t4⟩:=he
      obtain⟨s5,t5⟩:=s2.call o3 s4 t4 none (fun k hk=>by cases hk)
      simp only[putO,Act.put]at s5 t5
      have hρ3 : σ3.ρ H.length=w.heap.size+1:=(t5.ρ H.length (by omega)).trans hρ
      obtain⟨fn5,tm5,df5,q1,q2,q3⟩:=s5.heap H.length _ hb2
      rw[hρ3]at q1
      obtain⟨s6,t6⟩:=s5.set_blk hb2 trivial (fun cs e=>by cases e) (nb:= .dead) (fun cs e=>by cases e) (.loop {state:= .exhausted,pending:=bif p then some .ret else none,fn:=fn5,tmps:=tm5,params:=ps,assign:=as,body:=body,defers:=df5}) (fun w' hw hle=>trivial)
      rw[hρ3]at s6 t6
      have d6:=d2.go (t5.trans t6)
      have t06:=t02.trans (t5.trans t6)
      refine⟨_,_,run_endLoop q1 hst2,?_⟩
      cases p with
      |false=>exact hn.go σ3 _ (nodF fr) {a with defers:= [coll w.heap.size]++a.defers} _ rfl d6 s6 t06 hJ
      |true=>exact wpIn_ret (hrr.go σ3 _ (nodF fr) {a with defers:= [coll w.heap.size]++a.defers} _ rfl d6 s6 t06 hJ)
theorem wpA_sound(hm : P.follows .mixedOrders=true) : ∀ (c : Code),Snd P an c:=by
 intro c
 induction c with
 |skip=>exact fun {r σ w fr H a n x rr Q} hR hst _ hn _ _ h=>wpIn_skip (hn.go σ w fr a H rfl (.refl _ _ _ _ _) hst (Tr.refl _ _ _) h)
 |label l=>exact fun {r σ w fr H a n x rr Q} hR hst _ hn _ _ h=>wpIn_label (hn.go σ w fr a H rfl (.refl _ _ _ _ _) hst (Tr.refl _ _ _) h)
 |exit i=>exact fun {r σ w fr H a n x rr Q} hR hst _ _ hx _ h=>wpIn_exit ((hx i).go σ w fr a H rfl (.refl _ _ _ _ _) hst (Tr.refl _ _ _) h)
 |ret=>exact fun {r σ w fr H a n x rr Q} hR hst _ _ _ hr h=>wpIn_ret (hr.go σ w fr a H rfl (.refl _ _ _ _ _) hst (Tr.refl _ _ _) h)
 |goto l=>exact fun _ _ _ _ _ _ h=>h.elim
 |refuse l=>exact fun _ _ _ _ _ _ h=>h.elim
 |rangeFunc f ps as b iha ihb=>
  intro r σ w fr H a n x rr Q hR hst hwf hn hx hr h
  rcases hR with rfl|hR
  ·exact range_sound iha ihb hst hwf hn hr h
  ·cases hR
 |region id ops draw=>
  intro r σ w fr H a n x rr Q hR hst hwf hn hx hr h
  simp only[wfC,Bool.and_eq_true,List.all_eq_true]at hwf
  have e : ops=ops.toList.toArray:=by simp
  cases draw
  ·have:=region_seq (r:=r) (P:=P) (an:=an) (Q:=Q) (id:=id) (ops:=ops.toList) hst hwf.1 hn h
   rw[← e]at this;exact this
  ·have:=region_draw (r:=r) (P:=P) (an:=an) (Q:=Q) (id:=id) (ops:=ops.toList) hm hwf.2 hst hwf.1 hn h
   rw[← e]at this;exact this
 |seq c d ihc ihd=>
  intro r σ w fr H a n x rr Q hR hst hwf hn hx hr h
  simp only[wfC,Bool.and_eq_true]at hwf
  have hRc : r=none∨noRF c=true:=hR.imp id fun h=>by simp only[noRF,Bool.and_eq_true]at h;exact h.1
  have hRd : r=none∨noRF d=true:=hR.imp id fun h=>by simp only[noRF,Bool.and_eq_true]at h;exact h.2
  have step : ∀ {σ' w' fr' a' H'},a'.tmps.size=a.tmps.size→Dfr w a.defers σ' w' (Own σ' w' fr' a'.tmps H') a'.defers→St σ' w' fr' a'.tmps H'→Tr σ w (Own σ w fr a.tmps H) σ' w' (Own σ' w' fr' a'.tmps H')→wpA P an d fr' H' n x rr→d.wpIn (WF r) 0 P Q a' w':=
   fun {σ' w' fr' a' H'} h1 h2 h3 h4 h5=>ihd hRd h3 (by rw[h1];exact hwf.2) (hn.step h1 h2 h4 (fun _ _ h=>h)) (fun i=>(hx i).step h1 h2 h4 (fun _ _ h=>h)) (hr.step h1 h2 h4 (fun _ _ h=>h)) h5
  refine wpIn_seq ?_
  simp only[wpA]at h
  split at h
  ·exact ihc hRc hst hwf.1 ⟨fun σ' w' fr' a' H' h1 h2 h3 h4 h5=>step h1 h2 h3 h4 h5⟩ hx hr h
  ·rename_i L hL
   exact ihc (Q:=Exit.then (d.wpIn (WF r) 0 P Q) Q) hRc hst hwf.1 (n:=fun fr' H'=>wpA P an d (ofZ L (L.map fr')) H' n x rr) ⟨fun σ' w' fr' a' H' h1 h2 h3 h4 h5=>by
    obtain⟨s1,o1⟩:=h3.restrict L
    exact step h1 (h2.mono_own o1) s1 (h4.mono_own o1) h5⟩ hx hr h
 |cond c s t ihs iht=>
  intro r σ w fr H a n x rr Q hR hst hwf hn hx hr h
  simp only[wfC,Bool.and_eq_true]at hwf
  simp only[wpA,aCond]at h
  split at h
  ·rename_i t' hc
   have hr':=opd_rel hst none c
   rw[hc]at hr'
   have he:=hr'.imm_eq
   refine wpIn_cond_split he (fun ht=>ihs (hR.imp id fun h=>by simp only[noRF,Bool.and_eq_true]at h;exact h.1) hst hwf.1 hn hx hr (by subst ht;exact h)) (fun hf=>iht (hR.imp id fun h=>by simp only[noRF,Bool.and_eq_true]at h;exact h.2) hst hwf.2 hn hx hr (by subst hf;exact h))
  ·exact h.elim
 |block id c ih=>
  intro r σ w fr H a n x rr Q hR hst hwf hn hx hr h
  refine wpIn_block (ih hR hst hwf (hn.next fun _ _ h=>h) (fun i=> ?_) (hr.next fun _ _ h=>h) h)
  cases hi : Nat.beq i id with
  |true=>
   have:=Nat.eq_of_beq_eq_true hi
   subst this
   refine(hn.le (fun f h hk=>by simpa [hi]using hk)).next fun a w hq=> ?_
   simp only[Exit.inBlock,if_true];exact hq
  |false=>
   have hne : i≠id:=fun e=>by subst e;rw[Nat.beq_refl]at hi;cases hi
   refine((hx i).le (fun f h hk=>by simpa [hi]using hk)).next fun a w hq=> ?_
   simp only[Exit.inBlock,hne,if_false];exact hq
 |scope c ih=>
  intro r σ w fr H a n x rr Q hR hst hwf hn hx hr h
  exact wpIn_scope' (ih hR hst hwf (hn.next fun _ _ h=>⟨fun l e=>(nomatch e),h⟩) (fun i=>(hx i).next fun _ _ h=>⟨fun l e=>(nomatch e),h⟩) (hr.next fun _ _ h=>⟨fun l e=>(nomatch e),h⟩) h)
 |loop c ih=>
  intro r σ w fr H a n x rr Q hR hst hwf hn hx hr h
  simp only[wpA]at h
  split at h
  ·exact h.elim
  ·rename_i L hL
   obtain⟨S,I,vl,hp,μ,⟨s0,hI0,hv0,hh0⟩,hstep⟩:=h
   classical
   let At : Act→World→S→Prop:=fun a' w' s=>I s∧a'.tmps.size=a.tmps.size∧∃ σ',Dfr w a.defers σ' w' (Own σ' w' (ofZ L (vl s)) a'.tmps (hp s)) a'.defers∧St σ' w' (ofZ L (vl s)) a'.tmps (hp s)∧Tr σ w (Own σ w fr a.tmps H) σ' w' (Own σ' w' (ofZ L (vl s)) a'.tmps (hp s))
   let M : Act→World→Nat→Prop:=fun a' w' m=>∃ s,At a' w' s∧μ s=m
   let ms : Act→World→Nat:=fun a' w'=>if hx : ∃ m,M a' w' m then Classical.choose (exists_least _ hx)else 0
   have msle : ∀ {a' w' s},At a' w' s→ms a' w'≤μ s:=fun {a' w' s} hs=>by
    have hx : ∃ m,M a' w' m:=⟨μ s,s,hs,rfl⟩
    have e : ms a' w'=Classical.choose (exists_least _ hx):=dif_pos hx
    rw[e]
    exact(Classical.choose_spec (exists_least _ hx)).2 _ ⟨s,hs,rfl⟩
   have mseq : ∀ {a' w'},(∃ s,At a' w' s)→∃ s,At a' w' s∧μ s=ms a' w':=fun {a' w'} ⟨s,hs⟩=>by
    have hx : ∃ m,M a' w' m:=⟨μ s,s,hs,rfl⟩
    have e : ms a' w'=Classical.choose (exists_least _ hx):=dif_pos hx
    rw[e]
    exact(Classical.choose_spec (exists_least _ hx)).1
   refine wpIn_loop (fun a' w'=>∃ s,At a' w' s) ms ⟨s0,hI0,rfl,σ,.refl _ _ _ _ _,?_⟩ (fun a' w' hs=> ?_)
   ·obtain⟨s1,o1⟩:=hst.restrict L
    rw[hv0,hh0]
    exact⟨s1,(Tr.refl _ _ _).mono_own o1⟩
   ·obtain⟨s,⟨hI,h1,σ',h2,h3,h4⟩,hμ⟩:=mseq hs
    refine ih (Q:=Exit.then (fun a'' w''=>(∃ s,At a'' w'' s)∧ms a'' w'' < ms a' w') Q) hR h3 (by rw[h1];exact hwf) (n:=fun fr' H''=>∃ s',I s'∧vl s'=L.map fr'∧hp s'=H''∧μ s' < μ s) ⟨fun σ2 w2 fr2 a2 H2 k1 k2 k3 k4 k5=> ?_⟩
     (fun i=>(hx i).step h1 h2 h4 (fun _ _ h=>h)) (hr.step h1 h2 h4 (fun _ _ h=>h)) (hstep s hI)
    obtain⟨s',j1,j2,j3,j4⟩:=k5
    obtain⟨t1,o1⟩:=k3.restrict L
    have hAt : At a2 w2 s':=⟨j1,k1.trans h1,σ2,by rw[j2,j3];exact(h2.trans h4.size k4 k2).mono_own o1,by rw[j2,j3];exact t1,by rw[j2,j3];exact(h4.trans k4).mono_own o1⟩
    exact⟨⟨s',hAt⟩,Nat.lt_of_le_of_lt (msle hAt) (hμ ▸ j4)⟩
end
end Go.Ab
namespace Go.Ab
open Go
def resA (P : Program) (fr : Fr) (H : Hp) : List ResultVar → Option (List V)
  | [] => some []
  | .tmp t :: rest => (resA P fr H rest).map (fr t :: ·)
  | .cell a t :: rest =>
    (match fr a, P.underlying t with
     | .ptr b off, some _ =>
       (match H[b]? with
        | some (.cells cs) => bif Nat.ble (off + szT P t) cs.length && !Nat.beq (szT P t) 0 then (resA P fr H rest).map (cutA off (szT P t) (agT P t) cs :: ·) else none
        | _ => none)
     | _, _ => none)
def oneV : List V→V
 | [v]=>v
 |vs=> .tup (vs.map V.nod)
def aRes(size : Nat)(ag : Bool)(x : V)(H : Hp)(K : V→Prop) : Prop:=
 match x with
 | .ptr b off=>(match H[b]? with|some (.cells cs)=>off+size≤cs.length∧K (cutA off size ag cs)|_=>False)
 |_=>False
def resK (P : Program) (fr : Fr) (H : Hp) : List ResultVar → (List V → Prop) → Prop
  | [], K => K []
  | .tmp t :: rest, K => resK P fr H rest fun vs => K (fr t :: vs)
  | .cell a t :: rest, K =>
    (match P.underlying t with
     | some _ => bif Nat.beq (szT P t) 0 then False else aRes (szT P t) (agT P t) (fr a) H fun v => resK P fr H rest fun vs => K (v :: vs)
     | none => False)
def retF(v : V)(H' : Hp)(vs : List V)(H : Hp) : Prop:=Fz H'.length H (oneV vs) v∧H.take H'.length=H'
def retK(P : Program)(fn : Func)(R : List V→Hp→Prop)(fr : Fr)(H : Hp) : Prop:=resK P fr H fn.results.toList fun vs=>R vs H
def retA(P : Program)(fn : Func)(v : V)(H' : Hp)(fr : Fr)(H : Hp) : Prop:=
 ∃ vs,resA P fr H fn.results.toList=some vs∧Fz H'.length H (oneV vs) v∧H.take H'.length=H'
def Jv(rest : V→Hp→Prop)(body : (V→Hp→Prop)→Prop) : Prop:=body rest
theorem resK_res{P : Program}{fr : Fr}{H : Hp} : ∀ (l : List ResultVar){K : List V→Prop},resK P fr H l K→∃ vs,resA P fr H l=some vs∧K vs
 | [],K,h=>⟨[],rfl,h⟩
 | .tmp t::rest,K,h=>by
  obtain⟨vs,h1,h2⟩:=resK_res rest h
  exact⟨fr t::vs,by simp[resA,h1],h2⟩
 | .cell a t::rest,K,h=>by
  simp only[resK]at h
  split at h
  ·rename_i d hu
   cases hz : Nat.beq (szT P t) 0 <;> rw[hz]at h
   ·rw[cond_false]at h
    unfold aRes at h
    split at h
    ·rename_i b off hfa
     split at h
     ·rename_i cs hb
      obtain⟨hl,h⟩:=h
      obtain⟨vs,h1,h2⟩:=resK_res rest h
      refine⟨_::vs,?_,h2⟩
      have hl' : Nat.ble (off+szT P t) cs.length=true:=(Nat.ble_eq).mpr hl
      simp only[resA,hfa,hu,hb,hl',hz,h1,Bool.not_false,Bool.and_self,cond_true,Option.map_some]
     ·exact h.elim
    ·exact h.elim
   ·exact h.elim
  ·exact h.elim
theorem retK_A{P : Program}{fn : Func}{v : V}{H' : Hp}{fr : Fr}{H : Hp}(h : retK P fn (retF v H') fr H) : retA P fn v H' fr H:=by
 obtain⟨vs,h1,h2,h3⟩:=resK_res _ h
 exact⟨vs,h1,h2,h3⟩
section
variable {P : Program}{σ : Sg}{w : World}{fr : Fr}{H : Hp}{tmps : Array Value}
theorem loadVar_loadAt(t : TypeId)(a : Addr) : (loadVar t a).run P w=(Instr.loadAt t (.pointer (some a))).run P w:=by
 simp[Instr.loadAt,Instr.sureAddr]
def rvS(tmps : Array Value) : ResultVar→Sem Value
 | .tmp t=>pure (tmps.getD t undef)
 | .cell a t=>do loadVar t (← asAddr (tmps.getD a undef))
theorem resA_sound(hst : St σ w fr tmps H) : ∀ (l : List ResultVar)(vs : List V),resA P fr H l=some vs→
    ∃ xs : List Value,(l.mapM (rvS tmps)).run P w= .ok xs w∧xs.length=vs.length∧∀ (i : Nat)(v : V),vs[i]?=some v→Rel σ w v (xs.getD i undef)
  | [],vs,h=>by
    simp only[resA,Option.some.injEq]at h
    subst h
    exact⟨[],by simp,rfl,fun i v h=>by simp at h⟩
  | .tmp t::rest,vs,h=>by
    simp only[resA,Option.map_eq_some_iff]at h
    obtain⟨vs',h',rfl⟩:=h
    obtain⟨xs,h1,h2,h3⟩:=resA_sound hst rest vs' h'
    refine⟨tmps.getD t undef::xs,by simp only[List.mapM_cons,rvS];simp[h1],by simp[h2],fun i v hv=> ?_⟩
    cases i with
    |zero=>simp at hv;subst hv;exact hst.frame t
    |succ i=>exact h3 i v (by simpa using hv)
  | .cell a t::rest,vs,h=>by
    simp only[resA]at h
    split at h
    · rename_i b off d hfa hu
      split at h
      · rename_i cs hb
        cases hc : (Nat.ble (off+szT P t) cs.length && !Nat.beq (szT P t) 0) <;> rw[hc]at h
        · cases h
        · rw[cond_true,Option.map_eq_some_iff]at h
          obtain⟨vs',h',rfl⟩:=h
          simp only[Bool.and_eq_true,Bool.not_eq_true']at hc
          have hl:=(Nat.ble_eq).mp hc.1
          have hz : szT P t≠0:=fun e=>by rw[e]at hc;simp at hc
          obtain⟨xs,h1,h2,h3⟩:=resA_sound hst rest vs' h'
          have hr:=hst.frame a
          rw[hfa]at hr
          generalize hav : tmps.getD a undef=av at hr
          cases hr with
          |ptr _ _ hbn=>
            obtain⟨ys,e,hw,hlen,hat⟩:=hst.at hb
            obtain⟨y,hy,hry⟩:=load_of_at (P:=P) hu hat off hl (fun _=>hz)
            rw[Nat.zero_add,← loadVar_loadAt]at hy
            refine⟨y::xs,by simp only[List.mapM_cons,rvS,Sem.run_bind,hav,asAddr];simp[hy,h1],by simp[h2],fun i v hv=> ?_⟩
            cases i with
            |zero=>simp at hv;subst hv;simpa using hry
            |succ i=>exact h3 i v (by simpa using hv)
      · cases h
    · cases h
theorem results_sound(hst : St σ w fr tmps H){fn : Func}{vs : List V}(h : resA P fr H fn.results.toList=some vs) :
    ∃ x,(results fn tmps).run P w= .ok x w∧Rel σ w (oneV vs) x:=by
  obtain⟨xs,h1,h2,h3⟩:=resA_sound hst _ _ h
  have hrun : (results fn tmps).run P w= .ok (if h : xs.toArray.size=1 then xs.toArray[0]else .tuple xs.toArray) w:=by
    have e : results fn tmps=(fn.results.mapM (rvS tmps) >>=fun vs=>pure (if h : vs.size=1 then vs[0]else .tuple vs)):=by
      unfold results
      congr 1
    rw[e,Array.mapM_eq_mapM_toList]
    simp[h1]
  refine⟨_,hrun,?_⟩
  by_cases hs : xs.length=1
  · obtain⟨x0,rfl⟩:=List.length_eq_one_iff.1 hs
    obtain⟨v0,rfl⟩:=List.length_eq_one_iff.1 (h2.symm.trans hs)
    simpa [oneV]using h3 0 v0 rfl
  · have hv1 : oneV vs= .tup (vs.map V.nod):=by
      unfold oneV
      split
      · rename_i v;exact absurd (by rw[h2];rfl) hs
      · rfl
    rw[dif_neg (by simpa using hs),hv1]
    refine .tup _ _ (by simp[h2]) (fun i c hc=> ?_) (fun i c hc=> ?_)
    · rw[List.getElem?_map,Option.map_eq_some_iff]at hc
      obtain⟨c0, -,rfl⟩:=hc
      exact Nd_nod _
    · rw[List.getElem?_map,Option.map_eq_some_iff]at hc
      obtain⟨c0,hc0,rfl⟩:=hc
      have:=(h3 i c0 hc0).nod
      simpa [Array.getD_eq_getD_getElem?,List.getD_eq_getElem?_getD]using this
theorem getD_pad(ra : Array Value)(n i : Nat) : (ra++Array.replicate n undef).getD i undef=ra.getD i undef:=by
 simp only[Array.getD_eq_getD_getElem?,Array.getElem?_append]
 split
 ·rfl
 ·rename_i h
  rw[Array.getElem?_eq_none (Nat.le_of_not_lt h)]
  rw[Array.getElem?_replicate]
  split <;> rfl
theorem St.pad{ra : Array Value}(h : St σ w fr ra H)(n : Nat) : St σ w fr (ra++Array.replicate n undef) H∧∀ rb,Own σ w fr (ra++Array.replicate n undef) H rb→Own σ w fr ra H rb:=
 h.reframe _ _ id (fun i=>by rw[getD_pad];exact h.frame i) (fun i j rb _=>by rw[getD_pad];exact⟨rfl,rfl⟩) (fun i i' j j' rb _ _ e=>e)
theorem St.takes(hst : St σ w fr tmps H) : ∀ (rs : List Nat){w : World},St σ w fr tmps H→rs.Nodup→(∀ r,r ∈ rs→w.heap[r]?=some (.deferred (some []))∧¬ Lv σ r∧¬ Own σ w fr tmps H r)→∀ {fn : Func}{R : Ending→World→Prop},
    (∀ w',St σ w' fr tmps H→Tr σ w (fun rb=>Own σ w fr tmps H rb∨rb ∈ rs) σ w' (Own σ w' fr tmps H)→∃ x,(results fn tmps).run P w'= .ok x w'∧R (.returned x) w')→LeavesInM Fence.wide 0 P fn tmps R (rs.map coll) .returning w
  | [],w,h,_,_,fn,R,hk=>by
    obtain⟨x,h1,h2⟩:=hk w h ((Tr.refl σ w _).mono_in fun rb ho=> .inl ho)
    exact⟨x,h1,h2⟩
  |r::rs,w,h,hnd,hr,fn,R,hk=>by
    obtain⟨h1,h2,h3⟩:=hr r (by simp)
    obtain⟨hn1,hn2⟩:=List.nodup_cons.1 hnd
    have hlt : r < w.heap.size:=(Array.getElem?_eq_some_iff.1 h1).1
    have hne : ∀ {k : Nat},k≠r→(w.putObj r (.deferred none)).heap[k]?=w.heap[k]?:=fun hk=>World.putObj_heap_other hk
    have hle : Le σ w σ (w.putObj r (.deferred none)):=⟨Nat.le_refl _,fun _ _=>rfl,fun _=>Nat.le_refl _,fun rb o ho=>by
      by_cases e : rb=r
      · subst e
        simp[World.cell?,h1,World.putObj_heap_same hlt]
      · exact cell_of_heap (hne e),row_putObj (fun ys e f hc=>by rw[h1]at hc;cases hc)⟩
    obtain⟨s1,o1⟩:=h.world hle rfl (fun b blk hb hl=>⟨hne (fun e=>h2 ⟨b,by rw[h.hn];exact(List.getElem?_eq_some_iff.1 hb).1,e⟩),h.tip0 b blk hb hl⟩) (by simp) (fun rb hrb=>h.tipz rb (by simpa using hrb))
      (fun rb ho=>⟨hne (fun e=>h3 (e ▸ ho)),rfl⟩)
    have t1 : Tr σ w (fun rb=>Own σ w fr tmps H rb∨rb ∈ r::rs) σ (w.putObj r (.deferred none)) (fun rb=>Own σ (w.putObj r (.deferred none)) fr tmps H rb∨rb ∈ rs):=
      ⟨hle,rfl,rfl,rfl,by simp,fun rb _ _ ho=>⟨hne (fun e=>ho (.inr (by rw[e];simp))),rfl⟩,fun rb ho _=>by
        rcases ho with ho|ho
        · exact .inl (o1 rb ho)
        · exact .inr (by simp[ho]),fun b h1 h2=>absurd h2 (Nat.not_lt.2 h1)⟩
    refine⟨(by simp),.inl ⟨r,_,rfl,run_takeDeferred h1,St.takes hst rs s1 hn2 (fun q hq=> ?_) (fun w' s2 t2=>hk w' s2 (t1.trans t2))⟩⟩
    obtain⟨k1,k2,k3⟩:=hr q (by simp[hq])
    have hqr : q≠r:=fun e=>hn1 (e ▸ hq)
    exact⟨(hne hqr).trans k1,k2,fun ho=>k3 (o1 q ho)⟩
theorem ret_of{an : An}{f : Nat}{fn : Func}{c : Code}{args : List V}{H : Hp}{v : V}{H' : Hp}(hm : P.follows .mixedOrders=true)(henter : ∀ ar w,(callFunc f ar).run P w= .ok (.enter f ar) w)
    (hf : P.funcs[f]?=some fn)(hb : fn.body=some c)(hwf : (Nat.ble args.length fn.ntmps && wfC an fn.ntmps c)=true)(hd : v.Nd)(hn : H.length≤H'.length)(hbel : H'=H∨∀ (b : Nat)(blk : Blk),H'[b]?=some blk→H[b]?=some blk∨BelB H'.length blk)
    (h : wpA P an c (argF args) H (retK P fn (retF v H')) (fun _ _ _=>False) (retK P fn (retF v H'))) : Ret P f args H v H':=by
  refine⟨henter,fun σ w ra hl hst hnd=> ?_⟩
  simp only[Bool.and_eq_true]at hwf
  have hle : args.length≤fn.ntmps:=(Nat.ble_eq).mp hwf.1
  obtain⟨s1,o1⟩:=hst.pad (fn.ntmps - ra.size)
  have hsz : (ra++Array.replicate (fn.ntmps - ra.size) undef).size=fn.ntmps:=by simp;omega
  refine(callsIn_wide (n:=0) (P:=P)).1 (callsIn_of_wp_marks (F:=Fence.wide) hf hb trivial ?_)
  have fin : ∀ (Q : Exit→Act→World→Prop),(∀ a w',(LeavesInM Fence.wide 0 P fn a.tmps (fun e w'=>∃ x' σ',e= .returned x'∧St σ' w' (oneF v) #[x'] H'∧Tr σ w (Own σ w (argF args) ra H) σ' w' (Own σ' w' (oneF v) #[x'] H')) a.defers .returning w')→Q .normal a w')→
      Fin σ w (argF args) ⟨ra++Array.replicate (fn.ntmps - ra.size) undef,[]⟩ H (retK P fn (retF v H')) (fun a w'=>Q .normal a w'):=fun Q hQ=>⟨fun σ' w' fr' a' H2 h1 h2 h3 h4 h5=>by
    obtain⟨rs,e1,e2,e3⟩:=h2
    simp only[List.append_nil]at e1
    refine hQ a' w' ?_
    rw[e1]
    refine St.takes h3 rs h3 e2 (fun r hr=>⟨(e3 r hr).2.1,(e3 r hr).2.2.1,(e3 r hr).2.2.2⟩) (fun w'' h3' ht'=> ?_)
    obtain⟨vs,g1,g2,g3⟩:=retK_A h5
    obtain⟨x,x1,x2⟩:=results_sound h3' g1
    have hlen : H'.length≤H2.length:=by
      have:=congrArg List.length g3
      simp at this;omega
    have ht0 : Tr σ w (Own σ w (argF args) ra H) σ' w' (Own σ' w' fr' a'.tmps H2):=
      ⟨h4.toLe,h4.os,h4.output,h4.tape,h4.size,fun rb q1 q2 q3=>h4.keep rb q1 q2 (fun q=>q3 (o1 rb q)),fun rb q1 q2=>o1 rb (h4.own rb q1 q2),h4.fresh⟩
    have ht : Tr σ w (Own σ w (argF args) ra H) σ' w'' (Own σ' w'' fr' a'.tmps H2):=by
      refine Tr.trans (O':=fun rb=>Own σ' w' fr' a'.tmps H2 rb∨rb ∈ rs) ⟨ht0.toLe,ht0.os,ht0.output,ht0.tape,ht0.size,ht0.keep,fun rb ho hs=> ?_,ht0.fresh⟩ ht'
      rcases ho with ho|ho
      · exact ht0.own rb ho hs
      · exact absurd hs (Nat.not_lt.2 (e3 rb ho).1)
    have hbl : ∀ (b : Nat)(blk : Blk),b < H'.length→H2[b]?=some blk→BelB H'.length blk:=fun b blk hb hH=>by
      have hH' : H'[b]?=some blk:=by rw[← g3,List.getElem?_take,if_pos hb];exact hH
      have hold : H[b]?=some blk→BelB H'.length blk:=fun hH=>by
        have:=hst.belB hH
        rw[hst.hn]at this
        exact this.mono hn
      rcases hbel with e|e
      · rw[e]at hH';exact hold hH'
      · rcases e b blk hH' with e|e
        · exact hold e
        · exact e
    obtain⟨σ2,k1,k2⟩:=h3'.close ht (by rw[hst.hn];exact hn) hlen hbl x2 g2 hd
    rw[g3]at k1 k2
    exact⟨x,x1,x,σ2,rfl,k1,k2⟩⟩
  refine wpA_sound (an:=an) hm c (r:=none) (σ:=σ) (H:=H) (fr:=argF args) (n:=retK P fn (retF v H')) (x:=fun _ _ _=>False) (rr:=retK P fn (retF v H')) (.inl rfl) s1 (by rw[hsz];exact hwf.2) ?_ (fun i=>⟨fun _ _ _ _ _ _ _ _ _ h=>h.elim⟩) ?_ h
  · exact fin _ fun a w' q=>q
  · exact fin (fun _ a w'=>bodyPostM Fence.wide 0 P fn _ .ret a w') fun a w' q=>q
def retO(xs : List V)(H' : Hp)(vs : List V)(H : Hp) : Prop:=(vs= [.arr xs .own]∨vs= [.arr xs .full])∧Bel H'.length (.arr xs .own)∧H.take H'.length=H'
theorem ret_own{an : An}{f : Nat}{fn : Func}{c : Code}{args : List V}{H : Hp}{xs : List V}{t : Nat}{H' : Hp}(hm : P.follows .mixedOrders=true)(henter : ∀ ar w,(callFunc f ar).run P w= .ok (.enter f ar) w)
    (hf : P.funcs[f]?=some fn)(hb : fn.body=some c)(hwf : (Nat.ble args.length fn.ntmps && wfC an fn.ntmps c)=true)(hres : fn.results=#[.tmp t])(hn : H.length≤H'.length)(hbel : H'=H∨∀ (b : Nat)(blk : Blk),H'[b]?=some blk→H[b]?=some blk∨BelB H'.length blk)
    (h : wpA P an c (argF args) H (retK P fn (retO xs H')) (fun _ _ _=>False) (retK P fn (retO xs H'))) : Ret P f args H (.arr xs .own) H':=by
  refine⟨henter,fun σ w ra hl hst hnd=> ?_⟩
  simp only[Bool.and_eq_true]at hwf
  have hle : args.length≤fn.ntmps:=(Nat.ble_eq).mp hwf.1
  obtain⟨s1,o1⟩:=hst.pad (fn.ntmps - ra.size)
  have hsz : (ra++Array.replicate (fn.ntmps - ra.size) undef).size=fn.ntmps:=by simp;omega
  refine(callsIn_wide (n:=0) (P:=P)).1 (callsIn_of_wp_marks (F:=Fence.wide) hf hb trivial ?_)
  have fin : ∀ (Q : Exit→Act→World→Prop),(∀ a w',(LeavesInM Fence.wide 0 P fn a.tmps (fun e w'=>∃ x' σ',e= .returned x'∧St σ' w' (oneF (.arr xs .own)) #[x'] H'∧Tr σ w (Own σ w (argF args) ra H) σ' w' (Own σ' w' (oneF (.arr xs .own)) #[x'] H')) a.defers .returning w')→Q .normal a w')→
      Fin σ w (argF args) ⟨ra++Array.replicate (fn.ntmps - ra.size) undef,[]⟩ H (retK P fn (retO xs H')) (fun a w'=>Q .normal a w'):=fun Q hQ=>⟨fun σ' w' fr' a' H2 h1 h2 h3 h4 h5=>by
    obtain⟨rs,e1,e2,e3⟩:=h2
    simp only[List.append_nil]at e1
    refine hQ a' w' ?_
    rw[e1]
    refine St.takes h3 rs h3 e2 (fun r hr=>⟨(e3 r hr).2.1,(e3 r hr).2.2.1,(e3 r hr).2.2.2⟩) (fun w'' h3' ht'=> ?_)
    have h5' : retO xs H' [fr' t] H2:=by
      have e : fn.results.toList= [.tmp t]:=by rw[hres]
      simp only[retK,e,resK]at h5
      exact h5
    obtain⟨g2,gb,g3⟩:=h5'
    have g2 : fr' t= .arr xs .own∨fr' t= .arr xs .full:=by simpa using g2
    have x1 : (results fn a'.tmps).run P w''= .ok (a'.tmps.getD t undef) w'':=by
      simp[results,hres]
    have hlen : H'.length≤H2.length:=by
      have:=congrArg List.length g3
      simp at this;omega
    have ht0 : Tr σ w (Own σ w (argF args) ra H) σ' w' (Own σ' w' fr' a'.tmps H2):=
      ⟨h4.toLe,h4.os,h4.output,h4.tape,h4.size,fun rb q1 q2 q3=>h4.keep rb q1 q2 (fun q=>q3 (o1 rb q)),fun rb q1 q2=>o1 rb (h4.own rb q1 q2),h4.fresh⟩
    have ht : Tr σ w (Own σ w (argF args) ra H) σ' w'' (Own σ' w'' fr' a'.tmps H2):=by
      refine Tr.trans (O':=fun rb=>Own σ' w' fr' a'.tmps H2 rb∨rb ∈ rs) ⟨ht0.toLe,ht0.os,ht0.output,ht0.tape,ht0.size,ht0.keep,fun rb ho hs=> ?_,ht0.fresh⟩ ht'
      rcases ho with ho|ho
      · exact ht0.own rb ho hs
      · exact absurd hs (Nat.not_lt.2 (e3 rb ho).1)
    have hbl : ∀ (b : Nat)(blk : Blk),b < H'.length→H2[b]?=some blk→BelB H'.length blk:=fun b blk hb hH=>by
      have hH' : H'[b]?=some blk:=by rw[← g3,List.getElem?_take,if_pos hb];exact hH
      have hold : H[b]?=some blk→BelB H'.length blk:=fun hH=>by
        have:=hst.belB hH
        rw[hst.hn]at this
        exact this.mono hn
      rcases hbel with e|e
      · rw[e]at hH';exact hold hH'
      · rcases e b blk hH' with e|e
        · exact hold e
        · exact e
    obtain⟨σ2,k1,k2⟩:=h3'.close_own ht (by rw[hst.hn];exact hn) hlen hbl g2 gb
    rw[g3]at k1 k2
    exact⟨_,x1,_,σ2,rfl,k1,k2⟩⟩
  refine wpA_sound (an:=an) hm c (r:=none) (σ:=σ) (H:=H) (fr:=argF args) (n:=retK P fn (retO xs H')) (x:=fun _ _ _=>False) (rr:=retK P fn (retO xs H')) (.inl rfl) s1 (by rw[hsz];exact hwf.2) ?_ (fun i=>⟨fun _ _ _ _ _ _ _ _ _ h=>h.elim⟩) ?_ h
  · exact fin _ fun a w' q=>q
  · exact fin (fun _ a w'=>bodyPostM Fence.wide 0 P fn _ .ret a w') fun a w' q=>q
def retW(Q : V→Hp→Prop)(vs : List V)(H : Hp) : Prop:=Q (oneV vs).nod H
theorem retE_of{an : An}{f : Nat}{fn : Func}{c : Code}{args : List V}{H : Hp}{Qr : V→Hp→Prop}(hm : P.follows .mixedOrders=true)(henter : ∀ ar w,(callFunc f ar).run P w= .ok (.enter f ar) w)
    (hf : P.funcs[f]?=some fn)(hb : fn.body=some c)(hwf : (Nat.ble args.length fn.ntmps && wfC an fn.ntmps c)=true)
    (h : wpA P an c (argF args) H (retK P fn (retW Qr)) (fun _ _ _=>False) (retK P fn (retW Qr))) : RetE P f args H Qr:=by
  refine⟨henter,fun σ w ra hl hst hnd=> ?_⟩
  simp only[Bool.and_eq_true]at hwf
  have hle : args.length≤fn.ntmps:=(Nat.ble_eq).mp hwf.1
  obtain⟨s1,o1⟩:=hst.pad (fn.ntmps - ra.size)
  have hsz : (ra++Array.replicate (fn.ntmps - ra.size) undef).size=fn.ntmps:=by simp;omega
  refine(callsIn_wide (n:=0) (P:=P)).1 (callsIn_of_wp_marks (F:=Fence.wide) hf hb trivial ?_)
  have fin : ∀ (Q : Exit→Act→World→Prop),(∀ a w',(LeavesInM Fence.wide 0 P fn a.tmps (fun e w'=>∃ v H',Qr v H'∧∃ x' σ',e= .returned x'∧St σ' w' (oneF v) #[x'] H'∧Tr σ w (Own σ w (argF args) ra H) σ' w' (Own σ' w' (oneF v) #[x'] H')) a.defers .returning w')→Q .normal a w')→
      Fin σ w (argF args) ⟨ra++Array.replicate (fn.ntmps - ra.size) undef,[]⟩ H (retK P fn (retW Qr)) (fun a w'=>Q .normal a w'):=fun Q hQ=>⟨fun σ' w' fr' a' H2 h1 h2 h3 h4 h5=>by
    obtain⟨rs,e1,e2,e3⟩:=h2
    simp only[List.append_nil]at e1
    refine hQ a' w' ?_
    rw[e1]
    refine St.takes h3 rs h3 e2 (fun r hr=>⟨(e3 r hr).2.1,(e3 r hr).2.2.1,(e3 r hr).2.2.2⟩) (fun w'' h3' ht'=> ?_)
    obtain⟨vs,g1,g2⟩:=resK_res _ h5
    obtain⟨x,x1,x2⟩:=results_sound h3' g1
    have ht0 : Tr σ w (Own σ w (argF args) ra H) σ' w' (Own σ' w' fr' a'.tmps H2):=
      ⟨h4.toLe,h4.os,h4.output,h4.tape,h4.size,fun rb q1 q2 q3=>h4.keep rb q1 q2 (fun q=>q3 (o1 rb q)),fun rb q1 q2=>o1 rb (h4.own rb q1 q2),h4.fresh⟩
    have ht : Tr σ w (Own σ w (argF args) ra H) σ' w'' (Own σ' w'' fr' a'.tmps H2):=by
      refine Tr.trans (O':=fun rb=>Own σ' w' fr' a'.tmps H2 rb∨rb ∈ rs) ⟨ht0.toLe,ht0.os,ht0.output,ht0.tape,ht0.size,ht0.keep,fun rb ho hs=> ?_,ht0.fresh⟩ ht'
      rcases ho with ho|ho
      · exact ht0.own rb ho hs
      · exact absurd hs (Nat.not_lt.2 (e3 rb ho).1)
    obtain⟨k1,k2⟩:=h3'.one x2.nod (Nd_nod _)
    exact⟨x,x1,_,H2,g2,x,σ',rfl,k1,ht.mono_own k2⟩⟩
  refine wpA_sound (an:=an) hm c (r:=none) (σ:=σ) (H:=H) (fr:=argF args) (n:=retK P fn (retW Qr)) (x:=fun _ _ _=>False) (rr:=retK P fn (retW Qr)) (.inl rfl) s1 (by rw[hsz];exact hwf.2) ?_ (fun i=>⟨fun _ _ _ _ _ _ _ _ _ h=>h.elim⟩) ?_ h
  · exact fin _ fun a w' q=>q
  · exact fin (fun _ a w'=>bodyPostM Fence.wide 0 P fn _ .ret a w') fun a w' q=>q
end
end Go.Ab
namespace Go.Ab
open Go
structure Cb where
 aTB : V→(V→Prop)→Prop
 aBT : V→(V→Prop)→Prop
 aZr : V→Nat→V→(V→Prop)→Prop
 aEqS : TypeId→BinOp→V→V→(V→Prop)→Prop
 aEqP : BinOp→V→V→Hp→(V→Prop)→Prop
 aFd : Nat→Nat→Bool→V→(V→Prop)→Prop
 aIxT : V→V→(V→Prop)→Prop
 aTA : TypeId→Bool→V→(V→Prop)→Prop
 aLkp : TypeId→V→Bool→V→V→Hp→(V→Prop)→Prop
 aMkM : Hp→(V→Hp→Prop)→Prop
 aUpd : TypeId→V→V→V→Hp→(V→Hp→Prop)→Prop
 aAppS : Nat→Nat→V→V→Hp→(V→Hp→Prop)→Prop
 inv : String→V→List V→Hp→(V→Hp→Prop)→Prop
 callE : Nat→List V→Hp→(V→Hp→Prop)→Prop
 invE : String→V→List V→Hp→(V→Hp→Prop)→Prop
 aNilS : Option TypeDesc→BinOp→V→(V→Prop)→Prop
 aNilP : Option TypeDesc→BinOp→V→(V→Prop)→Prop
 aBin : Option TypeDesc→BinOp→V→V→(V→Prop)→Prop
 aWr : BinOp→V→V→(V→Prop)→Prop
 aUn : UnOp→V→(V→Prop)→Prop
 aExt : Nat→V→(V→Prop)→Prop
 aBx : Bool→Nat→V→Hp→(V→Hp→Prop)→Prop
 aFA : Nat→Nat→Bool→V→(V→Prop)→Prop
 aLd : Nat→Bool→Bool→V→Hp→(V→Hp→Prop)→Prop
 aSt : Nat→V→V→Hp→(V→Hp→Prop)→Prop
 aIx : Nat→V→V→(V→Prop)→Prop
 aIxA : Nat→Nat→Bool→V→V→(V→Prop)→Prop
 aSlc : Nat→V→Option V→Option V→Option V→(V→Prop)→Prop
 aMk : Bool→V→Nat→V→V→Hp→(V→Hp→Prop)→Prop
 aBS : Nat→Nat→V→List (Nat × V)→(V→Prop)→Prop
 aBd : List V→List (Nat × Nat × V)→(V→Prop)→Prop
 aNC : V→(V→Prop)→Prop
 aCv : Option TypeDesc→V→(V→Prop)→Prop
 aLen : V→(V→Prop)→Prop
 aLenT : V→(V→Prop)→Prop
 aApp : Nat→Nat→V→V→(V→Prop)→Prop
 aAppB : Nat→Nat→V→V→Hp→(V→Hp→Prop)→Prop
 aCpy : Nat→V→V→Hp→(V→Hp→Prop)→Prop
 aMM : Bool→List V→(V→Prop)→Prop
 aClr : V→Nat→V→Hp→(V→Hp→Prop)→Prop
 call : Nat→List V→Hp→(V→Hp→Prop)→Prop
 aRes : Nat→Bool→V→Hp→(V→Prop)→Prop
 calm : Nat→List V→Hp→(V→Prop)→Prop
 cally : Nat→List V→Hp→(V→Hp→Prop)→Prop
 callyE : Nat→List V→Hp→(V→Hp→Prop)→Prop
 range : V→Nat→Hp→(List V→Hp→(Hp→(Hp→Prop)→Prop)→(Bool→Hp→Prop)→Prop)→(Hp→Prop)→(Hp→Prop)→Prop
def real(P : Program) : Cb:=⟨aTB,aBT,aZr,aEqS P,aEqP,aFd,aIxT,aTA,aLkp P,aMkM,aUpd P,aAppS,aInv P,CallE P,aInvE P,aNilS,aNilP,aBin,aWr,aUn,aExt,aBx,aFA,aLd,aSt,aIx,aIxA,aSlc,aMk,aBS,aBd,aNC,aCv,aLen,aLenT,aApp,aAppB,aCpy,aMM,aClr,CallA P,aRes,CalmA P,CallY P,CallYE P,aRange P⟩
def aCallG(C : Cb)(fv : V)(args : List V)(H : Hp)(K : V→Hp→Prop) : Prop:=match fv with| .fn f caps=>C.call f (args++caps) H K| .bfn f first=>C.call f (first++args) H K| .yld b=>C.cally b args H K|_=>False
def effG (P : Program) (C : Cb) (an : An) (mv : Bool) (o : Oper) (ev : Operand → V) (H : Hp) (K : V → Hp → Prop) : Prop :=
  match o.op with
  | .move x => K (ev x) H
  | .assign x => K (ev x) H
  | .pick c a b => aPick (ev c) (ev a) (ev b) fun v => K v H
  | .binOp op t x (.const (.slice none 0 0)) _ => C.aNilS (P.underlying t) op (ev x) fun v => K v H
  | .binOp op t x (.const (.pointer none)) _ => C.aNilP (P.underlying t) op (ev x) fun v => K v H
  | .binOp op t x y _ => cnd (agT P t) (C.aEqS t op (ev x) (ev y) fun v => K v H) <| cnd (ptT P t) (cnd (loudO an o) (C.aEqP op (ev x) (ev y) H fun v => K v H) False) <| cnd (immO an o) (C.aWr op (ev x) (ev y) fun v => K v H) <| C.aBin (P.underlying t) op (ev x) (ev y) fun v => K v H
  | .unOp op _ x => C.aUn op (ev x) fun v => K v H
  | .extract x i => C.aExt i (ev x) fun v => K v H
  | .alloc t => (match zeroV P t with | some z => C.aBx false (szT P t) z H K | none => False)
  | .box t x => C.aBx (immO an o) (szT P t) (ev x) H K
  | .fieldAddr s x f =>
    (match P.underlying s with
     | some (.struct fs) => (match fs[f]? with | some fd => (cnd (Nat.beq (szT P fd.type) 0) False <| C.aFA fd.offset (szT P fd.type) (agT P fd.type) (ev x) fun v => K v H) | none => False)
     | _ => False)
  | .load t x => (match P.underlying t with | some _ => cnd (Nat.beq (szT P t) 0) False <| C.aLd (szT P t) (agT P t) mv (ev x) H K | none => False)
  | .store t x v => cnd (Nat.beq (szT P t) 0) False <| C.aSt (szT P t) (ev x) (ev v) H K
  | .indexAddr t x i =>
    (match P.underlying t with
     | some (.slice e) => cnd (Nat.beq (szT P e) 0) False <| C.aIx (szT P e) (ev x) (ev i) fun v => K v H
     | some (.array n e) => cnd (Nat.beq (szT P e) 0) False <| C.aIxA n (szT P e) (agT P e) (ev x) (ev i) fun v => K v H
     | _ => False)
  | .slice t x lo hi mx =>
    (match P.underlying t with
     | some (.slice e) => cnd (Nat.beq (szT P e) 0) False <| C.aSlc (szT P e) (ev x) (lo.map ev) (hi.map ev) (mx.map ev) fun v => K v H
     | _ => False)
  | .makeSlice t l c =>
    (match P.underlying t with
     | some (.slice e) => (match zeroV P e with | some z => cnd (!(Nat.beq z.cl.length (szT P e) && z.cl.all cellOk) || Nat.beq (byT P e) 0 || Nat.beq (szT P e) 0) False <| C.aMk (immO an o) z (byT P e) (ev l) (ev c) H K | none => False)
     | _ => False)
  | .buildSlice t len parts =>
    (match P.underlying t with
     | some (.slice e) => (match zeroV P e with | some z => cnd (!(Nat.beq z.cl.length (szT P e) && z.cl.all cellOk) || Nat.beq (szT P e) 0 || !Nat.ble (len * szT P e) 16777216) False <| C.aBS (szT P e) len z (parts.toList.map fun p => (p.1, ev p.2)) fun v => K (bif immO an o then noV v else v) H | none => False)
     | _ => False)
  | .build t parts =>
    (match placesOf P t with
     | some pl => (match zeroV P t, partsOf pl (fun x => (ev x).nod) parts.toList with | some (.agg cs), some ps => C.aBd cs ps fun v => K (match bld0 pl parts.toList with | true => own0 v (firstV ev parts.toList) | false => v) H | _, _ => False)
     | none => False)
  | .makeInterface t x => (match P.underlying t with | some (.interface _) => False | some _ => K (.ifc t (ev x)) H | none => False)
  | .makeFunc (.func f) first caps => (match first.toList with | [] => K (.fn f (caps.toList.map ev)) H | x :: xs => (match caps.toList with | [] => K (.bfn f ((x :: xs).map ev)) H | _ => False))
  | .nilCheck x => C.aNC (ev x) fun v => K v H
  | .convert s d x => (match cvK P s d with | .num => C.aCv (P.underlying d) (ev x) fun v => K v H | .tb => C.aTB (ev x) fun v => K v H | .bt => C.aBT (ev x) fun v => K v H | _ => False)
  | .index t x i => (match P.underlying t with | some .string => C.aIxT (ev x) (ev i) fun v => K v H | _ => False)
  | .field t x f =>
    (match P.underlying t with
     | some (.struct fs) => (match fs[f]? with | some fd => (match P.underlying fd.type with | some _ => cnd (Nat.beq (szT P fd.type) 0) False <| C.aFd fd.offset (szT P fd.type) (agT P fd.type) (ev x) fun v => K v H | none => False) | none => False)
     | _ => False)
  | .makeMap _ none => C.aMkM H K
  | .lookup t x k ok => (match P.underlying t with | some (.map kt et) => (match zeroV P et with | some z => C.aLkp kt z ok (ev x) (ev k) H fun v => K v H | none => False) | _ => False)
  | .mapUpdate t x k v => (match P.underlying t with | some (.map kt _) => C.aUpd kt (ev x) (ev k) (ev v) H K | _ => False)
  | .insert t x k v => (match P.underlying t with | some (.map kt _) => C.aUpd kt (ev x) (ev k) (ev v) H K | _ => False)
  | .typeAssert x _ t ok => (match P.underlying t with | some (.interface _) => False | some _ => C.aTA t ok (ev x) fun v => K v H | none => False)
  | .call { callee := .builtin .len, args, argTypes } =>
    (match args.toList, argTypes.toList with | [x], [t] => (match P.underlying t with | some (.slice _) => C.aLen (ev x) fun v => K v H | some .string => C.aLenT (ev x) fun v => K v H | _ => False) | _, _ => False)
  | .call { callee := .builtin .append, args, argTypes } =>
    (match args.toList, argTypes.toList with
     | [x, y], [t, t'] => (cnd (Nat.beq t t') (match P.underlying t with | some (.slice e) => (match zeroV P e with | some z => (cnd (!(Nat.beq z.cl.length (szT P e) && z.cl.all cellOk) || Nat.beq (szT P e) 0 || Nat.beq (byT P e) 0) False <| cnd (immO an o) (C.aAppB (szT P e) (byT P e) (ev x) (ev y) H K) <| cnd (loudO an o) (C.aAppS (szT P e) (byT P e) (ev x) (ev y) H K) (C.aApp (szT P e) (byT P e) (ev x) (ev y) fun v => K v H)) | none => False) | _ => False) (match P.underlying t, P.underlying t' with | some (.slice e), some (.int _) => (match zeroV P e with | some z => (cnd (!(Nat.beq z.cl.length (szT P e) && z.cl.all cellOk) || Nat.beq (szT P e) 0 || Nat.beq (byT P e) 0 || immO an o) False <| C.aZr z (byT P e) (ev y) fun y' => cnd (loudO an o) (C.aAppS (szT P e) (byT P e) (ev x) y' H K) (C.aApp (szT P e) (byT P e) (ev x) y' fun v => K v H)) | none => False) | _, _ => False))
     | _, _ => False)
  | .call { callee := .builtin .copy, args, argTypes } =>
    (match args.toList, argTypes.toList with
     | [x, y], [t, _] => (match P.underlying t with | some (.slice e) => cnd (Nat.beq (szT P e) 0) False <| C.aCpy (szT P e) (ev x) (ev y) H K | _ => False)
     | _, _ => False)
  | .call { callee := .builtin .clear, args, argTypes } =>
    (match args.toList, argTypes.toList with
     | [x], [t] => (match P.underlying t with | some (.slice e) => (match zeroV P e with | some z => cnd (!(Nat.beq z.cl.length (szT P e) && z.cl.all cellOk) || Nat.beq (szT P e) 0) False <| C.aClr z (szT P e) (ev x) H K | none => False) | _ => False)
     | _, _ => False)
  | .call { callee := .builtin .max, args, argTypes := _ } => C.aMM true (args.toList.map ev) fun v => K v H
  | .call { callee := .builtin .min, args, argTypes := _ } => C.aMM false (args.toList.map ev) fun v => K v H
  | .call { callee := .value f, args, argTypes := _ } => aCallG C (ev f) (args.toList.map ev) H K
  | .call { callee := .invoke x name, args, argTypes := _ } => C.inv name (ev x) (args.toList.map ev) H K
  | _ => False
def aCalmG(C : Cb)(fv : V)(args : List V)(H : Hp)(K : V→Prop) : Prop:=match fv with| .fn f caps=>C.calm f (args++caps) H K| .bfn f first=>C.calm f (first++args) H K|_=>False
def calmG(C : Cb)(o : Oper)(ev : Operand→V)(H : Hp)(K : V→Hp→Prop) : Prop:=
 match o.op with| .call {callee:= .value f,args,argTypes:=_}=>aCalmG C (ev f) (args.toList.map ev) H (fun v=>K v H)|_=>False
def effXG(P : Program)(C : Cb)(an : An)(dr mv : Bool)(o : Oper)(ev : Operand→V)(H : Hp)(K : V→Hp→Prop) : Prop:=
 cnd (dr && calmO an o) (calmG C o ev H K) (effG P C an mv o ev H K)
def aCallEG(C : Cb)(fv : V)(args : List V)(H : Hp)(K : V→Hp→Prop) : Prop:=match fv with| .fn f caps=>C.callE f (args++caps) H K| .bfn f first=>C.callE f (first++args) H K| .yld b=>C.callyE b args H K|_=>False
def callEG(C : Cb)(o : Oper)(ev : Operand→V)(H : Hp)(K : V→Hp→Prop) : Prop:=
 match o.op with
 | .call {callee:= .value f,args,argTypes:=_}=>aCallEG C (ev f) (args.toList.map ev) H K
 | .call {callee:= .invoke x name,args,argTypes:=_}=>C.invE name (ev x) (args.toList.map ev) H K
 |_=>False
def opXG(P : Program)(C : Cb)(an : An)(dr : Bool)(ops : List Oper)(o : Oper)(fr : Fr)(H : Hp)(K : Fr→Hp→Prop) : Prop:=
 cnd ((!dr||immO an o) && isCIO o) (callEG C o (opd fr none) H fun v H'=>K (putO fr o.dst v) H') <|effXG P C an dr (mvOf ops o) o (opd fr (consOf (mvOf ops o) o)) H fun v H'=>K (putO (useO fr (consOf (mvOf ops o) o)) o.dst v) H'
def pairG(P : Program)(C : Cb)(o o2 : Oper)(fr : Fr)(H : Hp)(K : Fr→Hp→Prop) : Prop:=
 match o.dst,o2.op with
 |some t,.store ty _ v=>(match zeroV P ty with|some z=>cnd (!(Nat.beq z.cl.length (szT P ty) && z.cl.all cellOk)||Nat.beq (szT P ty) 0) False <|C.aBx true (szT P ty) (opd fr none v) H fun u H'=>K (put fr t u) H'|none=>False)
 |_,_=>False
def opsG(P : Program)(C : Cb)(an : An)(dr : Bool)(ops : List Oper) : List Oper→List Nat→Fr→Hp→(Fr→Hp→Prop)→Prop
  | [],U,fr,H,K=>K fr H
  |o::rest,U,fr,H,K=>
    cnd (!dr && pairO an o rest) (match rest with|o2::rest2=>pairG P C o o2 fr H fun fr' H'=>opsG P C an dr ops rest2 U fr' H' K| []=>False) <|
    match o.guard with
    |none=>opXG P C an dr ops o fr H fun fr' H'=>opsG P C an dr ops rest U fr' H' K
    |some (j,want)=>
      match gslot ops j with
      |some d=>cnd (hasN U d) (fr d=UD∧opsG P C an dr ops rest (addO U o.dst) (putO fr o.dst UD) H K) <|
          aG (fr d) want (opXG P C an dr ops o (put fr d (B want)) H fun fr' H'=>opsG P C an dr ops rest U fr' H' K) (opsG P C an dr ops rest (addO U o.dst) (putO (put fr d (B (!want))) o.dst UD) H K)
      |none=>False
  termination_by structural l=>l
def opsMG(P : Program)(C : Cb)(an : An)(id : Nat)(ops : List Oper)(fr : Fr)(H : Hp)(K : Fr→Hp→Prop) : Prop:=
 allP (csOf an id ops.length).2 fun l=>opsG P C an true ops (sel ops l) [] fr H K
def wpG (P : Program) (C : Cb) (an : An) : Code → Fr → Hp → (Fr → Hp → Prop) → (Nat → Fr → Hp → Prop) → (Fr → Hp → Prop) → Prop
  | .skip, fr, H, n, x, r => n fr H
  | .label _, fr, H, n, x, r => n fr H
  | .region id ops draw, fr, H, n, x, r => cnd draw (opsMG P C an id ops.toList fr H n) (opsG P C an false ops.toList ops.toList [] fr H n)
  | .seq a b, fr, H, n, x, r =>
    (match lkp an.jn (firstR b) with
     | none => wpG P C an a fr H (fun fr' H' => wpG P C an b fr' H' n x r) x r
     | some L => Jn (fun l H' => wpG P C an b (ofZ L l) H' n x r) fun R => wpG P C an a fr H (fun fr' H' => R (L.map fr') H') x r)
  | .cond c a b, fr, H, n, x, r => aCond (opd fr none c) (wpG P C an a fr H n x r) (wpG P C an b fr H n x r)
  | .block id c, fr, H, n, x, r => wpG P C an c fr H n (fun i fr' H' => cnd (Nat.beq i id) (n fr' H') (x i fr' H')) r
  | .loop c, fr, H, n, x, r =>
    (match lkp an.lp (firstR c) with
     | none => False
     | some L => LoopA (fun l H' K => wpG P C an c (ofZ L l) H' (fun fr' H'' => K (L.map fr') H'') x r) (L.map fr) H)
  | .exit i, fr, H, n, x, r => x i fr H
  | .ret, fr, H, n, x, r => r fr H
  | .scope c, fr, H, n, x, r => wpG P C an c fr H n x r
  | .rangeFunc g ps as body, fr, H, n, x, r =>
    C.range (opd fr none g) ps.toList.length H (fun vs H1 D K => wpG P C an as (putPs ps.toList 0 vs (nodF fr)) H1 (fun fr' H' => D H' fun H'' => wpG P C an body fr' H'' (fun _ H3 => K false H3) (fun _ _ _ => False) (fun _ H3 => K true H3)) (fun _ _ _ => False) (fun _ _ => False))
      (fun H' => n (nodF fr) H') (fun H' => r (nodF fr) H')
  | _, _, _, _, _, _ => False
def resG (P : Program) (C : Cb) (fr : Fr) (H : Hp) : List ResultVar → (List V → Prop) → Prop
  | [], K => K []
  | .tmp t :: rest, K => resG P C fr H rest fun vs => K (fr t :: vs)
  | .cell a t :: rest, K =>
    (match P.underlying t with
     | some _ => cnd (Nat.beq (szT P t) 0) False <| C.aRes (szT P t) (agT P t) (fr a) H fun v => resG P C fr H rest fun vs => K (v :: vs)
     | none => False)
def retG(P : Program)(C : Cb)(fn : Func)(R : List V→Hp→Prop)(fr : Fr)(H : Hp) : Prop:=resG P C fr H fn.results.toList fun vs=>R vs H
theorem opXG_real(P : Program) : @opXG P (real P)= @opX P:=rfl
theorem pairG_real(P : Program) : @pairG P (real P)= @pairK P:=rfl
theorem opsG_real(P : Program)(an : An)(dr : Bool)(ops : List Oper) : ∀ (l : List Oper)(U : List Nat)(fr : Fr)(H : Hp)(K : Fr→Hp→Prop),opsG P (real P) an dr ops l U fr H K=opsA P an dr ops l U fr H K
 | [],_,_,_,_=>rfl
 | [o],U,fr,H,K=>by
  rw[opsG.eq_def,opsA.eq_def]
  simp only[opXG_real,opsG_real P an dr ops []]
  rfl
 |o::o2::l,U,fr,H,K=>by
  rw[opsG.eq_def,opsA.eq_def]
  simp only[opXG_real,pairG_real,opsG_real P an dr ops (o2::l),opsG_real P an dr ops l]
  rfl
theorem wpG_real(P : Program)(an : An) : ∀ (c : Code)(fr : Fr)(H : Hp)(n : Fr→Hp→Prop)(x : Nat→Fr→Hp→Prop)(r : Fr→Hp→Prop),wpG P (real P) an c fr H n x r=wpA P an c fr H n x r:=by
 intro c
 induction c with
 |seq a b iha ihb=>intro fr H n x r;simp only[wpG,wpA,iha,ihb];try rfl
 |cond c a b iha ihb=>intro fr H n x r;simp only[wpG,wpA,iha,ihb]
 |block id c ih=>intro fr H n x r;simp only[wpG,wpA,ih];try rfl
 |loop c ih=>intro fr H n x r;simp only[wpG,wpA,ih];try rfl
 |scope c ih=>intro fr H n x r;simp only[wpG,wpA,ih]
 |rangeFunc g ps as body iha ihb=>intro fr H n x r;simp only[wpG,wpA,iha,ihb];try rfl
 |region id ops draw=>intro fr H n x r;simp only[wpG,wpA,opsMG,opsM,opsG_real]
 |_=>intro fr H n x r;rfl
theorem resG_real(P : Program)(fr : Fr)(H : Hp) : ∀ (l : List ResultVar)(K : List V→Prop),resG P (real P) fr H l K=resK P fr H l K
 | [],_=>rfl
 | .tmp t::l,K=>by simp only[resG,resK,resG_real P fr H l]
 | .cell a t::l,K=>by
  simp only[resG,resK,resG_real P fr H l]
  rfl
theorem retG_real(P : Program)(fn : Func)(R : List V→Hp→Prop) : retG P (real P) fn R=retK P fn R:=by
 funext fr H
 simp only[retG,retK,resG_real]
theorem ret_mk{P : Program}{an : An}{f : Nat}{fn : Func}{c : Code}{args : List V}{H : Hp}{v : V}{H' : Hp}(hm : P.follows .mixedOrders=true)(henter : ∀ ar w,(callFunc f ar).run P w= .ok (.enter f ar) w)
    (hf : P.funcs[f]?=some fn)(hb : fn.body=some c)(hwf : (Nat.ble args.length fn.ntmps && wfC an fn.ntmps c)=true)(hd : v.Nd)(hn : H.length≤H'.length)(hbel : H'=H∨∀ (b : Nat)(blk : Blk),H'[b]?=some blk→H[b]?=some blk∨BelB H'.length blk)
    (h : wpG P (real P) an c (argF args) H (retG P (real P) fn (retF v H')) (fun _ _ _=>False) (retG P (real P) fn (retF v H'))) : Ret P f args H v H':=by
  rw[wpG_real,retG_real]at h
  exact ret_of hm henter hf hb hwf hd hn hbel h
theorem ret_mko{P : Program}{an : An}{f : Nat}{fn : Func}{c : Code}{args : List V}{H : Hp}{xs : List V}{t : Nat}{H' : Hp}(hm : P.follows .mixedOrders=true)(henter : ∀ ar w,(callFunc f ar).run P w= .ok (.enter f ar) w)
    (hf : P.funcs[f]?=some fn)(hb : fn.body=some c)(hwf : (Nat.ble args.length fn.ntmps && wfC an fn.ntmps c)=true)(hres : fn.results=#[.tmp t])(hn : H.length≤H'.length)(hbel : H'=H∨∀ (b : Nat)(blk : Blk),H'[b]?=some blk→H[b]?=some blk∨BelB H'.length blk)
    (h : wpG P (real P) an c (argF args) H (retG P (real P) fn (retO xs H')) (fun _ _ _=>False) (retG P (real P) fn (retO xs H'))) : Ret P f args H (.arr xs .own) H':=by
  rw[wpG_real,retG_real]at h
  exact ret_own hm henter hf hb hwf hres hn hbel h
theorem retE_mk{P : Program}{an : An}{f : Nat}{fn : Func}{c : Code}{args : List V}{H : Hp}{Q : V→Hp→Prop}(hm : P.follows .mixedOrders=true)(henter : ∀ ar w,(callFunc f ar).run P w= .ok (.enter f ar) w)
    (hf : P.funcs[f]?=some fn)(hb : fn.body=some c)(hwf : (Nat.ble args.length fn.ntmps && wfC an fn.ntmps c)=true)
    (h : wpG P (real P) an c (argF args) H (retG P (real P) fn (retW Q)) (fun _ _ _=>False) (retG P (real P) fn (retW Q))) : RetE P f args H Q:=by
  rw[wpG_real,retG_real]at h
  exact retE_of hm henter hf hb hwf h
end Go.Ab
namespace Go.Ab
open Go
abbrev E8 (n : Int) : V:= .imm (.int .u8 n)
def ints(l : List Int)(f : Fl) : V:= .arr (l.map I) f
section
variable {K : V→Prop}{KH : V→Hp→Prop}{H : Hp}
theorem nod_imm(x : Value) : (V.imm x).nod= .imm x:=rfl
theorem nod_sl(b o n c s : Nat) : (V.sl b o n c s).nod= .sl b o n c s:=rfl
theorem nod_ptr(b o : Nat) : (V.ptr b o).nod= .ptr b o:=rfl
theorem nod_cptr(v : V) : (V.cptr v).nod= .cptr v:=rfl
theorem nod_fn(f : Nat)(cs : List V) : (V.fn f cs).nod= .fn f cs:=rfl
theorem nod_junk : V.junk.nod= .junk:=rfl
theorem nodL_imm(x : Value) : (V.imm x).nodL= .imm x:=rfl
theorem nod_agg(cs : List V) : (V.agg cs).nod= .agg (cs.map V.nodL):=rfl
theorem nod_tup(cs : List V) : (V.tup cs).nod= .tup (cs.map V.nod2):=rfl
theorem nod2_imm(x : Value) : (V.imm x).nod2= .imm x:=rfl
theorem nod2_agg(cs : List V) : (V.agg cs).nod2= .agg (cs.map V.nodL):=rfl
theorem cl_imm(x : Value) : (V.imm x).cl= [.imm x]:=rfl
theorem cl_ints(l : List Int)(f : Fl) : (ints l f).cl= [ints l f]:=rfl
theorem cl_agg(cs : List V) : (V.agg cs).cl=cs:=rfl
theorem e_add(d : Option TypeDesc)(a b : Int) : aBin d .add (I a) (I b) K=(R64 (a+b)∧K (I (a+b))):=by simp[aBin,aInt,aNum]
theorem e_sub(d : Option TypeDesc)(a b : Int) : aBin d .sub (I a) (I b) K=(R64 (a - b)∧K (I (a - b))):=by simp[aBin,aInt,aNum]
theorem e_mul(d : Option TypeDesc)(a b : Int) : aBin d .mul (I a) (I b) K=(R64 (a*b)∧K (I (a*b))):=by simp[aBin,aInt,aNum]
theorem e_quo(d : Option TypeDesc)(a b : Int) : aBin d .quo (I a) (I b) K=(b≠0∧R64 (a.tdiv b)∧K (I (a.tdiv b))):=by simp[aBin,aInt,aNum]
theorem e_rem(d : Option TypeDesc)(a b : Int) : aBin d .rem (I a) (I b) K=(b≠0∧K (I (a.tmod b))):=by simp[aBin,aInt]
theorem e_eql(d : Option TypeDesc)(k : IntKind)(a b : Int) : aBin d .eql (.imm (.int k a)) (.imm (.int k b)) K=K (B (decide (a=b))):=by simp[aBin,aInt]
theorem e_neq(d : Option TypeDesc)(k : IntKind)(a b : Int) : aBin d .neq (.imm (.int k a)) (.imm (.int k b)) K=K (B (!decide (a=b))):=by simp[aBin,aInt]
theorem e_lss(d : Option TypeDesc)(k : IntKind)(a b : Int) : aBin d .lss (.imm (.int k a)) (.imm (.int k b)) K=K (B (decide (a < b))):=by simp[aBin,aInt]
theorem e_leq(d : Option TypeDesc)(k : IntKind)(a b : Int) : aBin d .leq (.imm (.int k a)) (.imm (.int k b)) K=K (B (decide (a≤b))):=by simp[aBin,aInt]
theorem e_gtr(d : Option TypeDesc)(k : IntKind)(a b : Int) : aBin d .gtr (.imm (.int k a)) (.imm (.int k b)) K=K (B (decide (b < a))):=by simp[aBin,aInt]
theorem e_geq(d : Option TypeDesc)(k : IntKind)(a b : Int) : aBin d .geq (.imm (.int k a)) (.imm (.int k b)) K=K (B (decide (b≤a))):=by simp[aBin,aInt]
theorem e_beq(a b : Bool) : aBin (some .bool) .eql (B a) (B b) K=K (B (a==b)):=rfl
theorem e_bne(a b : Bool) : aBin (some .bool) .neq (B a) (B b) K=K (B (!(a==b))):=rfl
theorem e_neg(a : Int) : aUn .neg (I a) K=(R64 (0 - a)∧K (I (0 - a))):=rfl
theorem e_not(b : Bool) : aUn .not (B b) K=K (B (!b)):=rfl
theorem e_pick(t : Bool)(a b : V) : aPick (B t) a b K=K (bif t then a else b):=rfl
theorem e_cond(t : Bool)(A C : Prop) : aCond (B t) A C=if t=true then A else C:=by cases t <;> simp[aCond]
theorem e_gT(t : Bool)(A C : Prop) : aG (B t) true A C=bif t then A else C:=by cases t <;> simp[aG]
theorem e_gF(t : Bool)(A C : Prop) : aG (B t) false A C=bif t then C else A:=by cases t <;> simp[aG]
theorem e_len(l : List Int)(f : Fl) : aLen (ints l f) K=K (I l.length):=by simp[aLen,ints]
theorem e_lenA(l : List V)(f : Fl) : aLen (.arr l f) K=K (I l.length):=rfl
theorem e_lenS(b o n c s : Nat) : aLen (.sl b o n c s) K=K (I n):=rfl
theorem getD_ints(l : List Int)(k : Nat)(h : k < l.length) : (l.map I).getD k .junk=I (l.getD k 0):=by
 simp[List.getD_eq_getElem?_getD,h]
theorem e_ix(l : List Int)(f : Fl)(i : Int) : aIx 1 (ints l f) (I i) K=(0≤i∧i < l.length∧K (.cptr (I (l.getD i.toNat 0)))):=by
 simp only[aIx,ints,List.length_map]
 refine propext ⟨fun ⟨h1,h2,_,h⟩=>⟨h1,h2,?_⟩,fun ⟨h1,h2,h⟩=>⟨h1,h2,?_,?_⟩⟩
 ·rw[getD_ints l _ (by omega)]at h;exact h
 ·rw[getD_ints l _ (by omega)];rfl
 ·rw[getD_ints l _ (by omega)];exact h
theorem e_ixS(b o n c s s0 : Nat)(i : Int) : aIx s (.sl b o n c s0) (I i) K=(0≤i∧i < n∧K (.ptr b (o+i.toNat*s))):=rfl
theorem e_ldc(x : Value) : aLd 1 false false (.cptr (.imm x)) H KH=KH (.imm x) H:=rfl
theorem e_ldci(l : List Int)(f : Fl) : aLd 1 false false (.cptr (ints l f)) H KH=KH (ints l f) H:=rfl
theorem e_st(b o : Nat)(x : V)(s : Nat) : aSt s (.ptr b o) x H KH=(match H[b]? with|some (.cells cs)=>o+s≤cs.length∧okE s (stV x)∧KH .junk (H.set b (.cells (spl cs o (stV x).cl)))|_=>False):=rfl
theorem e_fa(b o off s : Nat)(ag : Bool) : aFA off s ag (.ptr b o) K=K (.ptr b (o+off)):=rfl
theorem e_mk(n : Int)(z : V)(bytes : Nat) : aMk false z bytes (I n) (I n) H KH=(0≤n∧n*bytes≤140737488355328∧KH (.sl H.length 0 n.toNat n.toNat z.cl.length) (H++ [.cells (List.replicate n.toNat z.cl).flatten])):=by
 simp[aMk]
theorem rep_cl(n : Nat)(x : Value) : (List.replicate n (V.imm x).cl).flatten=List.replicate n (.imm x):=by
 simp only[V.cl]
 induction n with
 |zero=>rfl
 |succ n ih=>rw[List.replicate_succ,List.flatten_cons,ih];rfl
theorem rep_I(n : Nat)(x : Int) : List.replicate n (I x)=(List.replicate n x).map I:=(List.map_replicate ..).symm
theorem e_appB(b : Nat)(ys : List Int)(f : Fl) : aAppB 1 b (.arr [] .full) (ints ys f) H KH=(ys≠ []∧ys.length*b≤140737488355328∧KH (.sl H.length 0 ys.length ys.length 1) (H++ [.cells (ys.map I)])):=by
 have h1 : ∀ e,e ∈ ys.map I→e.cl.length=1∧∀ c,c ∈ e.cl→cellOk c=true:=fun e he=>by
  obtain⟨x, -,rfl⟩:=List.mem_map.1 he
  exact⟨rfl,fun c hc=>by simp[V.cl]at hc;subst hc;rfl⟩
 have h2 : (ys.map I).flatMap V.cl=ys.map I:=by
  clear h1
  induction ys with
  |nil=>rfl
  |cons x l ih=>rw[List.map_cons,List.flatMap_cons,ih];rfl
 simp only[aAppB,ints,h2,List.length_map,ne_eq,List.map_eq_nil_iff,eq_iff_iff]
 exact⟨fun h=>⟨h.1,h.2.2.1,h.2.2.2⟩,fun h=>⟨h.1,h1,h.2.1,h.2.2⟩⟩
theorem e_appB0(b : Nat)(ys : List Int)(f : Fl) : aAppB 1 b (ints [] .full) (ints ys f) H KH=(ys≠ []∧ys.length*b≤140737488355328∧KH (.sl H.length 0 ys.length ys.length 1) (H++ [.cells (ys.map I)])):=e_appB b ys f
theorem g_appB{s n : Nat}{x x' y y' : V}{H' : Hp}(h : x=x')(h' : y=y')(h2 : H=H') : aAppB s n x y H KH=aAppB s n x' y' H' KH:=by rw[h,h',h2]
theorem e_bx(z : V)(s : Nat) : aBx false s z H KH=(okE s z∧KH (.ptr H.length 0) (H++ [.cells z.cl])):=rfl
theorem okE_imm(x : Value)(h : x.oneCell'=true) : okE 1 (.imm x):=⟨rfl,fun c hc=>by simp[V.cl]at hc;subst hc;exact h⟩
theorem okE_I(n : Int) : okE 1 (I n)=True:=eq_true (okE_imm _ rfl)
theorem okE_B(b : Bool) : okE 1 (B b)=True:=eq_true (okE_imm _ rfl)
theorem okE_E8(n : Int) : okE 1 (E8 n)=True:=eq_true (okE_imm _ rfl)
theorem okE_ints(l : List Int)(f : Fl) : okE 1 (ints l f)=True:=eq_true ⟨rfl,fun c hc=>by simp[V.cl,ints]at hc;subst hc;rfl⟩
theorem stV_imm(x : Value) : stV (.imm x)= .imm x:=rfl
theorem stV_ints(l : List Int)(f : Fl) : stV (ints l f)=ints l f:=rfl
theorem tail0{α : Type}(H L : List α) : (H++L)[H.length]?=L[0]?:=by rw[List.getElem?_append_right (by omega)];congr 1;omega
theorem tailk{α : Type}(H L : List α)(k : Nat) : (H++L)[H.length+k]?=L[k]?:=by rw[List.getElem?_append_right (by omega)];congr 1;omega
theorem set0{α : Type}(H L : List α)(x : α) : (H++L).set H.length x=H++L.set 0 x:=by rw[List.set_append_right _ _ (by omega)];simp
theorem setk{α : Type}(H L : List α)(k : Nat)(x : α) : (H++L).set (H.length+k) x=H++L.set k x:=by
 rw[List.set_append_right _ _ (by omega)];congr 2;omega
theorem spl_one(l : List Int)(o : Nat)(x : Int)(h : o < l.length) : spl (l.map I) o [I x]=(l.set o x).map I:=by
 simp only[spl,List.length_singleton]
 rw[List.map_set,List.set_eq_take_append_cons_drop]
 simp[h]
theorem g_bin{d : Option TypeDesc}{op : BinOp}{x x' y y' : V}(h : x=x')(h' : y=y') : aBin d op x y K=aBin d op x' y' K:=by rw[h,h']
theorem g_nilS{d : Option TypeDesc}{op : BinOp}{x x' : V}(h : x=x') : aNilS d op x K=aNilS d op x' K:=by rw[h]
theorem g_nilP{d : Option TypeDesc}{op : BinOp}{x x' : V}(h : x=x') : aNilP d op x K=aNilP d op x' K:=by rw[h]
theorem g_un{op : UnOp}{x x' : V}(h : x=x') : aUn op x K=aUn op x' K:=by rw[h]
theorem g_ext{i : Nat}{x x' : V}(h : x=x') : aExt i x K=aExt i x' K:=by rw[h]
theorem g_bx{b : Bool}{s : Nat}{x x' : V}{H' : Hp}(h : x=x')(h' : H=H') : aBx b s x H KH=aBx b s x' H' KH:=by rw[h,h']
theorem g_fa{o s : Nat}{ag : Bool}{x x' : V}(h : x=x') : aFA o s ag x K=aFA o s ag x' K:=by rw[h]
theorem g_ld{s : Nat}{ag mv : Bool}{x x' : V}{H' : Hp}(h : x=x')(h' : H=H') : aLd s ag mv x H KH=aLd s ag mv x' H' KH:=by rw[h,h']
theorem g_st{s : Nat}{x x' y y' : V}{H' : Hp}(h : x=x')(h2 : y=y')(h' : H=H') : aSt s x y H KH=aSt s x' y' H' KH:=by rw[h,h2,h']
theorem g_ix{s : Nat}{x x' y y' : V}(h : x=x')(h' : y=y') : aIx s x y K=aIx s x' y' K:=by rw[h,h']
theorem g_ixA{n s : Nat}{ag : Bool}{x x' y y' : V}(h : x=x')(h' : y=y') : aIxA n s ag x y K=aIxA n s ag x' y' K:=by rw[h,h']
theorem g_slc{s : Nat}{x x' : V}{a a' b b' c c' : Option V}(h : x=x')(h1 : a=a')(h2 : b=b')(h3 : c=c') : aSlc s x a b c K=aSlc s x' a' b' c' K:=by rw[h,h1,h2,h3]
theorem g_mk{i : Bool}{z : V}{n : Nat}{x x' y y' : V}{H' : Hp}(h : x=x')(h2 : y=y')(h' : H=H') : aMk i z n x y H KH=aMk i z n x' y' H' KH:=by rw[h,h2,h']
theorem g_bs{s n : Nat}{z : V}{ps ps' : List (Nat × V)}(h : ps=ps') : aBS s n z ps K=aBS s n z ps' K:=by rw[h]
theorem g_bd{cs : List V}{ps ps' : List (Nat × Nat × V)}(h : ps=ps') : aBd cs ps K=aBd cs ps' K:=by rw[h]
theorem g_nc{x x' : V}(h : x=x') : aNC x K=aNC x' K:=by rw[h]
theorem g_cv{d : Option TypeDesc}{x x' : V}(h : x=x') : aCv d x K=aCv d x' K:=by rw[h]
theorem g_len{x x' : V}(h : x=x') : aLen x K=aLen x' K:=by rw[h]
theorem g_lenT{x x' : V}(h : x=x') : aLenT x K=aLenT x' K:=by rw[h]
theorem g_app{s n : Nat}{x x' y y' : V}(h : x=x')(h' : y=y') : aApp s n x y K=aApp s n x' y' K:=by rw[h,h']
theorem g_cpy{s : Nat}{x x' y y' : V}{H' : Hp}(h : x=x')(h2 : y=y')(h' : H=H') : aCpy s x y H KH=aCpy s x' y' H' KH:=by rw[h,h2,h']
theorem g_mm{b : Bool}{l l' : List V}(h : l=l') : aMM b l K=aMM b l' K:=by rw[h]
theorem g_call{P : Program}{f : Nat}{l l' : List V}{H' : Hp}(h : l=l')(h' : H=H') : CallA P f l H KH=CallA P f l' H' KH:=by rw[h,h']
theorem g_callE{P : Program}{f : Nat}{l l' : List V}{H' : Hp}(h : l=l')(h' : H=H') : CallE P f l H KH=CallE P f l' H' KH:=by rw[h,h']
theorem g_callEG{C : Cb}{x x' : V}{l l' : List V}{H' : Hp}(h0 : x=x')(h : l=l')(h' : H=H') : aCallEG C x l H KH=aCallEG C x' l' H' KH:=by rw[h0,h,h']
theorem g_calm{P : Program}{f : Nat}{l l' : List V}{H' : Hp}(h : l=l')(h' : H=H') : CalmA P f l H K=CalmA P f l' H' K:=by rw[h,h']
theorem g_calmG{C : Cb}{x x' : V}{l l' : List V}{H' : Hp}(h0 : x=x')(h : l=l')(h' : H=H') : aCalmG C x l H K=aCalmG C x' l' H' K:=by rw[h0,h,h']
theorem g_range{P : Program}{x x' : V}{n : Nat}{H' : Hp}{stp : List V→Hp→(Hp→(Hp→Prop)→Prop)→(Bool→Hp→Prop)→Prop}{A C : Hp→Prop}(h0 : x=x')(h' : H=H') : aRange P x n H stp A C=aRange P x' n H' stp A C:=by rw[h0,h']
theorem g_callG{C : Cb}{x x' : V}{l l' : List V}{H' : Hp}(h0 : x=x')(h : l=l')(h' : H=H') : aCallG C x l H KH=aCallG C x' l' H' KH:=by rw[h0,h,h']
theorem g_res{s : Nat}{ag : Bool}{x x' : V}{H' : Hp}(h : x=x')(h' : H=H') : aRes s ag x H K=aRes s ag x' H' K:=by rw[h,h']
theorem g_pick{x x' a a' b b' : V}(h : x=x')(h1 : a=a')(h2 : b=b') : aPick x a b K=aPick x' a' b' K:=by rw[h,h1,h2]
theorem g_cond{x x' : V}{A C : Prop}(h : x=x') : aCond x A C=aCond x' A C:=by rw[h]
theorem g_loop{step : List V→Hp→(List V→Hp→Prop)→Prop}{l l' : List V}{H' : Hp}(h : l=l')(h' : H=H') : LoopA step l H=LoopA step l' H':=by rw[h,h']
theorem g_Jv{rest : V→Hp→Prop}{body body' : (V→Hp→Prop)→Prop}(h : body=body') : Jv rest body=Jv rest body':=by rw[h]
theorem j_and'(t : Bool)(R : V→Hp→Prop)(b : Bool) : (bif t then R (B b) H else R (B false) H)=R (B (t && b)) H:=by cases t <;> simp
theorem j_or'(t : Bool)(R : V→Hp→Prop)(b : Bool) : (bif t then R (B true) H else R (B b) H)=R (B (t||b)) H:=by cases t <;> simp
theorem j_tl(t : Bool)(S X Y : Prop) : (bif t then S∧X else Y)=((t=true→S)∧bif t then X else Y):=by cases t <;> simp
theorem j_fl(t : Bool)(S X Y : Prop) : (bif t then X else S∧Y)=((t=false→S)∧bif t then X else Y):=by cases t <;> simp
theorem j_one(rest : V→Hp→Prop)(x : V)(H : Hp) : Jv rest (fun R=>R x H)=rest x H:=rfl
theorem j_side(rest : V→Hp→Prop)(S : Prop)(body : (V→Hp→Prop)→Prop) : Jv rest (fun R=>S∧body R)=(S∧Jv rest body):=rfl
theorem call_of{P : Program}{f : Nat}{args : List V}{H H' : Hp}{v : V}{K : V→Hp→Prop}(h : Ret P f args H v H')(k : K v H') : CallE P f args H K:=CallE_of ⟨v,H',h,k⟩
theorem callE_of{P : Program}{f : Nat}{args : List V}{H : Hp}{Q K : V→Hp→Prop}(h : RetE P f args H Q)(k : ∀ v H',Q v H'→K v H') : CallE P f args H K:=⟨Q,h,k⟩
theorem call_ofD{P : Program}{f : Nat}{args : List V}{H H' : Hp}{v : V}{K : V→Hp→Prop}(h : Ret P f args H v H')(k : K v H') : (real P).call f args H K:=⟨v,H',h,k⟩
theorem calm_of{P : Program}{f : Nat}{args : List V}{H : Hp}{v : V}{K : V→Prop}(h : ∀ H,Ret P f args H v H)(k : K v) : (real P).calm f args H K:=⟨v,fun L=>h (H++L),k⟩
theorem e_callG(C : Cb)(f : Nat)(caps args : List V)(H : Hp)(K : V→Hp→Prop) : aCallG C (.fn f caps) args H K=C.call f (args++caps) H K:=rfl
theorem e_callEG(C : Cb)(f : Nat)(caps args : List V)(H : Hp)(K : V→Hp→Prop) : aCallEG C (.fn f caps) args H K=C.callE f (args++caps) H K:=rfl
theorem e_callEY(C : Cb)(b : Nat)(args : List V)(H : Hp)(K : V→Hp→Prop) : aCallEG C (.yld b) args H K=C.callyE b args H K:=rfl
theorem e_callEB(C : Cb)(f : Nat)(first args : List V)(H : Hp)(K : V→Hp→Prop) : aCallEG C (.bfn f first) args H K=C.callE f (first++args) H K:=rfl
theorem e_callY(C : Cb)(b : Nat)(args : List V)(H : Hp)(K : V→Hp→Prop) : aCallG C (.yld b) args H K=C.cally b args H K:=rfl
theorem e_calmG(C : Cb)(f : Nat)(caps args : List V)(H : Hp)(K : V→Prop) : aCalmG C (.fn f caps) args H K=C.calm f (args++caps) H K:=rfl
theorem end_keep{v : V}{vs : List V}{H : Hp}(hb : Bel H.length (oneV vs))(h : oneV vs=v) : retF v H vs H:=⟨by rw[h]at hb ⊢;exact .keep _ hb,by simp⟩
theorem bel_ints(n : Nat)(l : List Int)(f : Fl) : Bel n (ints l f):= .arr _ _ fun c hc=>by
 obtain⟨x, -,rfl⟩:=List.mem_map.1 hc
 exact .imm _
theorem flat_I : ∀ l : List Int,(l.map I).flatMap V.cl=l.map I
 | []=>rfl
 |x::l=>by rw[List.map_cons,List.flatMap_cons,flat_I l];rfl
theorem fz_ints{n : Nat}{H : Hp}{b m cap : Nat}{l : List Int}(hb : n≤b)(hH : H[b]?=some (.cells (l.map I)))(hm : l.length=m) : Fz n H (.sl b 0 m cap 1) (ints l .no):=by
 refine .sl b 0 m cap 1 1 (l.map I) (l.map I) .no hb hH (by simpa using hm) (by omega) (fun x hx=> ?_) (fun h=>by cases h) (by simp;omega) (fun j c c' h1 h2=> ?_)
 ·obtain⟨y, -,rfl⟩:=List.mem_map.1 hx;exact⟨rfl,rfl⟩
 ·have e : (l.map I).flatMap V.cl=l.map I:=flat_I l
  rw[e]at h2
  rw[Nat.zero_add,h2]at h1
  cases h1
  obtain⟨y, -,rfl⟩:=List.mem_map.1 (List.mem_of_getElem? h2)
  exact .keep _ (.imm _)
theorem loop_of{S : Type}{step : List V→Hp→(List V→Hp→Prop)→Prop}{l : List V}{H : Hp}(I : S→Prop)(vl : S→List V)(hp : S→Hp)(μ : S→Nat)(s0 : S)(h0 : I s0)(hv : vl s0=l)(hh : hp s0=H)
    (hs : ∀ s,I s→step (vl s) (hp s) fun l' H'=>∃ s',I s'∧vl s'=l'∧hp s'=H'∧μ s' < μ s) : LoopA step l H:=⟨S,I,vl,hp,μ,⟨s0,h0,hv,hh⟩,hs⟩
def fill(n : Nat)(f : Nat→Int)(i : Nat) : List Int:=(List.range n).map fun j=>if j < i then f j else 0
theorem fill_length(n : Nat)(f : Nat→Int)(i : Nat) : (fill n f i).length=n:=by simp[fill]
theorem fill_zero(n : Nat)(f : Nat→Int) : fill n f 0=List.replicate n 0:=by
 simp[fill,List.map_const']
theorem fill_all(n : Nat)(f : Nat→Int) : fill n f n=(List.range n).map f:=by
 refine List.map_congr_left fun j hj=> ?_
 rw[List.mem_range]at hj
 simp[hj]
theorem fill_set(n : Nat)(f : Nat→Int)(i : Nat)(h : i < n) : (fill n f i).set i (f i)=fill n f (i+1):=by
 refine List.ext_getElem? fun k=> ?_
 simp only[fill,List.getElem?_set,List.length_map,List.length_range,List.getElem?_map]
 by_cases hk : i=k
 ·subst hk
  simp[h]
 ·simp only[if_neg hk]
  by_cases hkn : k < n
  ·simp only[List.getElem?_range hkn,Option.map_some,Option.some.injEq]
   by_cases h1 : k < i
   ·simp[h1,Nat.lt_succ_of_lt h1]
   ·have : ¬ k < i+1:=by omega
    simp[h1,this]
  ·simp[hkn]
theorem abs_mul_le{a b A B : Int}(h1 : -A≤a)(h2 : a≤A)(h3 : -B≤b)(h4 : b≤B) : -(A*B)≤a*b∧a*b≤A*B:=by
 have hA : 0≤A:=by omega
 have hB : 0≤B:=by omega
 have e : a*b=(if 0≤a then a else -a)*(if 0≤b then b else -b)*(if 0≤a then(if 0≤b then 1 else -1)else(if 0≤b then -1 else 1)):=by
  split <;> split <;> simp[Int.neg_mul,Int.mul_neg]
 have p1 : 0≤(if 0≤a then a else -a):=by split <;> omega
 have p2 : (if 0≤a then a else -a)≤A:=by split <;> omega
 have p3 : 0≤(if 0≤b then b else -b):=by split <;> omega
 have p4 : (if 0≤b then b else -b)≤B:=by split <;> omega
 generalize (if 0≤a then a else -a)=x at*
 generalize (if 0≤b then b else -b)=y at*
 have h5 : 0≤x*y:=Int.mul_nonneg p1 p3
 have h6 : x*y≤A*B:=Int.mul_le_mul p2 p4 p3 hA
 rw[e]
 generalize x*y=z at*
 split <;> split <;> constructor <;> omega
end
end Go.Ab
namespace Go.Ab
open Go
def lists(ls : List (List Int))(f : Fl) : V:= .arr (ls.map fun l=>ints l .no) f
section
variable {K : V→Prop}{KH : V→Hp→Prop}{H : Hp}
theorem e_lenL(l : List (List Int))(f : Fl) : aLen (lists l f) K=K (I l.length):=by simp[aLen,lists]
theorem e_ixL(l : List (List Int))(f : Fl)(i : Int) : aIx 1 (lists l f) (I i) K=(0≤i∧i < l.length∧K (.cptr (ints (l.getD i.toNat []) .no))):=by
 have g : ∀ k,k < l.length→(l.map fun l=>ints l .no).getD k .junk=ints (l.getD k []) .no:=fun k h=>by simp[List.getD_eq_getElem?_getD,h]
 simp only[aIx,lists,List.length_map]
 refine propext ⟨fun ⟨h1,h2,_,h⟩=>⟨h1,h2,?_⟩,fun ⟨h1,h2,h⟩=>⟨h1,h2,?_,?_⟩⟩
 ·rw[g _ (by omega)]at h;exact h
 ·rw[g _ (by omega)];rfl
 ·rw[g _ (by omega)];exact h
theorem bel_lists(n : Nat)(l : List (List Int))(f : Fl) : Bel n (lists l f):= .arr _ _ fun c hc=>by
 obtain⟨x, -,rfl⟩:=List.mem_map.1 hc
 exact bel_ints n x .no
theorem okE_lists(l : List (List Int))(f : Fl) : okE 1 (lists l f)=True:=eq_true ⟨rfl,fun c hc=>by simp[V.cl,lists]at hc;subst hc;rfl⟩
theorem bs1(x : Int) : aBS 1 1 (I 0) [(0,I x)] K=K (ints [x] .full):=by simp[aBS,aPs,setP,okE_I,ints]
theorem bs1L(l : List Int) : aBS 1 1 (.arr [] .full) [(0,ints l .no)] K=K (lists [l] .full):=by simp[aBS,aPs,setP,okE_ints,lists]
theorem bs2L(a b : List Int) : aBS 1 2 (.arr [] .full) [(0,ints a .no),(1,ints b .no)] K=K (lists [a,b] .full):=by simp[aBS,aPs,setP,okE_ints,lists]
def Fl.ap : Fl→Bool
 | .no=>false
 |_=>true
theorem ap_ne{f : Fl} : (f≠ .no)=(f.ap=true):=by cases f <;> simp[Fl.ap]
theorem szL_ints(l : List Int) : SzL 1 (l.map I):=fun u hu=>by obtain⟨x, -,rfl⟩:=List.mem_map.1 hu;rfl
theorem szL_lists(l : List (List Int)) : SzL 1 (l.map fun l=>ints l .no):=fun u hu=>by obtain⟨x, -,rfl⟩:=List.mem_map.1 hu;rfl
theorem e_app(n : Nat)(l l' : List Int)(f g : Fl) : aApp 1 n (ints l f) (ints l' g) K=(f.ap=true∧(l.length+l'.length)*n≤140737488355328∧K (ints (l++l') .own)):=by
 simp only[aApp,ints,List.length_map,ap_ne,szL_ints,true_and,List.map_append]
theorem e_appL(n : Nat)(l l' : List (List Int))(f g : Fl) : aApp 1 n (lists l f) (lists l' g) K=(f.ap=true∧(l.length+l'.length)*n≤140737488355328∧K (lists (l++l') .own)):=by
 simp only[aApp,lists,List.length_map,ap_ne,szL_lists,true_and,List.map_append]
theorem e_app0(n : Nat)(l' : List Int)(g : Fl) : aApp 1 n (.arr [] .full) (ints l' g) K=(l'.length*n≤140737488355328∧K (ints l' .own)):=by
 have:=e_app (K:=K) n [] l' .full g
 simpa [ints,Fl.ap]using this
theorem e_app0L(n : Nat)(l' : List (List Int))(g : Fl) : aApp 1 n (.arr [] .full) (lists l' g) K=(l'.length*n≤140737488355328∧K (lists l' .own)):=by
 have:=e_appL (K:=K) n [] l' .full g
 simpa [lists,Fl.ap]using this
def Fl.nd : Fl→Fl
 | .own=> .no
 |f=>f
theorem nod_ints(l : List Int)(f : Fl) : (ints l f).nod=ints l f.nd:=by cases f <;> rfl
theorem nod_lists(l : List (List Int))(f : Fl) : (lists l f).nod=lists l f.nd:=by cases f <;> rfl
def oF(i : Nat) : Fl:=match i with|0=> .full|_=> .own
theorem nd_no : Fl.no.nd= .no:=rfl
theorem nd_own : Fl.own.nd= .no:=rfl
theorem nd_full : Fl.full.nd= .full:=rfl
def fO(i : Nat) : Fl:=match i with|0=> .own|_=> .no
theorem nd_fO(i : Nat) : (fO i).nd= .no:=by cases i <;> rfl
theorem ap_own : Fl.own.ap=true:=rfl
theorem ap_full : Fl.full.ap=true:=rfl
theorem oF_ap(i : Nat) : (oF i).ap=true:=by cases i <;> rfl
theorem oF_succ(i : Nat) : oF (i+1)= .own:=rfl
theorem end_any{n : Nat}{H : Hp}{l : List Int}{f : Fl} : Fz n H (ints l f) (ints l .no):=by
 cases f
 ·exact .keep _ (bel_ints ..)
 ·exact .nodL _ (bel_ints ..)
 ·exact .full _ (bel_ints ..)
theorem e_slcLo(l : List Int)(f : Fl)(i : Int) : aSlc 1 (ints l f) (some (I i)) none none K=(0≤i∧i≤l.length∧K (ints (l.drop i.toNat) .no)):=by
 simp only[aSlc,ints,szL_ints,true_and,List.length_map,List.map_drop]
theorem e_slcHi(l : List Int)(f : Fl)(i : Int) : aSlc 1 (ints l f) none (some (I i)) none K=(0≤i∧i≤l.length∧K (ints (l.take i.toNat) .no)):=by
 simp only[aSlc,ints,szL_ints,true_and,List.length_map,List.map_take]
theorem e_slcLH(l : List Int)(f : Fl)(i j : Int) : aSlc 1 (ints l f) (some (I i)) (some (I j)) none K=(0≤i∧i≤j∧j≤l.length∧K (ints ((l.take j.toNat).drop i.toNat) .no)):=by
 simp only[aSlc,ints,szL_ints,true_and,List.length_map,List.map_take,List.map_drop]
theorem e_slcHH(l : List Int)(f : Fl)(i j : Int) : aSlc 1 (ints l f) none (some (I i)) (some (I j)) K=(0≤i∧i=j∧j≤l.length∧K (ints (l.take i.toNat) .full)):=by
 simp only[aSlc,ints,szL_ints,true_and,List.length_map,List.map_take]
theorem e_slcLHH(l : List Int)(f : Fl)(i j m : Int) : aSlc 1 (ints l f) (some (I i)) (some (I j)) (some (I m)) K=(0≤i∧i≤j∧j=m∧m≤l.length∧K (ints ((l.take j.toNat).drop i.toNat) .full)):=by
 simp only[aSlc,ints,szL_ints,true_and,List.length_map,List.map_take,List.map_drop]
theorem e_slcLoL(l : List (List Int))(f : Fl)(i : Int) : aSlc 1 (lists l f) (some (I i)) none none K=(0≤i∧i≤l.length∧K (lists (l.drop i.toNat) .no)):=by
 simp only[aSlc,lists,szL_lists,true_and,List.length_map,List.map_drop]
theorem e_slcHiL(l : List (List Int))(f : Fl)(i : Int) : aSlc 1 (lists l f) none (some (I i)) none K=(0≤i∧i≤l.length∧K (lists (l.take i.toNat) .no)):=by
 simp only[aSlc,lists,szL_lists,true_and,List.length_map,List.map_take]
theorem e_slcLHL(l : List (List Int))(f : Fl)(i j : Int) : aSlc 1 (lists l f) (some (I i)) (some (I j)) none K=(0≤i∧i≤j∧j≤l.length∧K (lists ((l.take j.toNat).drop i.toNat) .no)):=by
 simp only[aSlc,lists,szL_lists,true_and,List.length_map,List.map_take,List.map_drop]
theorem e_slS0(s b o n c : Nat) : aSlc s (.sl b o n c s) none none none K=K (.sl b o n c s):=by simp[aSlc]
theorem e_slSLo(s b o n c : Nat)(l : Int) : aSlc s (.sl b o n c s) (some (I l)) none none K=(0≤l∧l≤n∧K (.sl b (offS o l.toNat c s) (n - l.toNat) (c - l.toNat) s)):=by simp[aSlc]
theorem e_slSHi(s b o n c : Nat)(h : Int) : aSlc s (.sl b o n c s) none (some (I h)) none K=(0≤h∧h≤c∧K (.sl b o h.toNat c s)):=by simp[aSlc]
theorem e_slSLH(s b o n c : Nat)(l h : Int) : aSlc s (.sl b o n c s) (some (I l)) (some (I h)) none K=(0≤l∧l≤h∧h≤c∧K (.sl b (offS o l.toNat c s) (h.toNat - l.toNat) (c - l.toNat) s)):=by simp[aSlc]
theorem e_slSHH(s b o n c : Nat)(h m : Int) : aSlc s (.sl b o n c s) none (some (I h)) (some (I m)) K=(0≤h∧h≤m∧m≤c∧K (.sl b o h.toNat m.toNat s)):=by simp[aSlc]
theorem e_slSLHH(s b o n c : Nat)(l h m : Int) : aSlc s (.sl b o n c s) (some (I l)) (some (I h)) (some (I m)) K=(0≤l∧l≤h∧h≤m∧m≤c∧K (.sl b (offS o l.toNat m.toNat s) (h.toNat - l.toNat) (m.toNat - l.toNat) s)):=by simp[aSlc]
theorem e_max2(a b : Int) : aMM true [I a,I b] K=K (I (max a b)):=by
 simp only[aMM,aMM2,mm2,true_and,cond_true]
 congr 3
 omega
theorem e_min2(a b : Int) : aMM false [I a,I b] K=K (I (min a b)):=by
 simp only[aMM,aMM2,mm2,true_and,cond_false]
 congr 3
 omega
theorem e_max3(a b c : Int) : aMM true [I a,I b,I c] K=K (I (max (max a b) c)):=by
 simp only[aMM,aMM2,mm2,true_and,cond_true]
 congr 3
 omega
theorem e_x20(a b : V) : aExt 0 (.tup [a,b]) K=K a:=by simp[aExt]
theorem e_x21(a b : V) : aExt 1 (.tup [a,b]) K=K b:=by simp[aExt]
theorem e_x30(a b c : V) : aExt 0 (.tup [a,b,c]) K=K a:=by simp[aExt]
theorem e_x31(a b c : V) : aExt 1 (.tup [a,b,c]) K=K b:=by simp[aExt]
theorem e_x32(a b c : V) : aExt 2 (.tup [a,b,c]) K=K c:=by simp[aExt]
theorem nod2_ints(l : List Int)(f : Fl) : (ints l f).nod2=ints l f.nd:=by cases f <;> rfl
theorem nod2_lists(l : List (List Int))(f : Fl) : (lists l f).nod2=lists l f.nd:=by cases f <;> rfl
theorem rep_fl(n : Nat)(x : Int) : (List.replicate n [I x]).flatten=(List.replicate n x).map I:=by
 induction n with
 |zero=>rfl
 |succ n ih=>rw[List.replicate_succ,List.flatten_cons,ih];rfl
theorem bs0(s : Nat)(z : V) : aBS s 0 z [] K=K (.arr [] .full):=by simp[aBS,aPs,setP]
theorem e_nilE(t : TypeId)(l : List Int)(f : Fl) : aNilS (some (.slice t)) .eql (ints l f) K=((l≠ []→K (B false))∧(l= []→K (B true)∧K (B false))):=by simp[aNilS,ints]
def splI(cs : List Int)(off : Nat)(vs : List Int) : List Int:=cs.take off++vs++cs.drop (off+vs.length)
theorem spl_ints(cs : List Int)(off : Nat)(vs : List Int) : spl (cs.map I) off (vs.map I)=(splI cs off vs).map I:=by simp[spl,splI]
end
end Go.Ab
namespace Go.Ab
open Go
inductive Wk : V→V→Prop
 |refl (v : V) : Wk v v
 |full (xs : List V) : Wk (.arr xs .full) (.arr xs .no)
 |sub (xs : List (List V)) : Wk (.arr (xs.map fun l=> .arr l .full) .full) (.arr (xs.map fun l=> .arr l .no) .no)
 |agg (ls : List (List V)) : Wk (.agg (ls.map fun l=> .arr l .full)) (.agg (ls.map fun l=> .arr l .no))
 |mix (ls : List (List V × Bool)) : Wk (.agg (ls.map fun l=> .arr l.1 (bif l.2 then .full else .no))) (.agg (ls.map fun l=> .arr l.1 .no))
inductive WkL : List V→List V→Prop
 |nil : WkL [] []
 |cons {v v' : V}{l l' : List V}(h : Wk v v')(t : WkL l l') : WkL (v::l) (v'::l')
theorem fm_arr(xs : List (List V))(f : Fl) : (xs.map fun l=>V.arr l f).flatMap V.cl=xs.map fun l=>V.arr l f:=by
 induction xs with
 |nil=>rfl
 |cons x xs ih=>rw[List.map_cons,List.flatMap_cons,ih];rfl
theorem Rel.wkF{σ w}{xs : List V}{x : Value}(h : Rel σ w (.arr xs .full) x) : Rel σ w (.arr xs .no) x:=by
 cases h with
 |arr0 f a cap hf hsp=>exact .arr0 _ a cap (fun h=>by cases h) hsp
 |arr xs f rb off n cap s ys hne hn hc hf hs hx hcell h1=>exact .arr xs _ rb off n cap s ys hne hn hc (fun h=>by cases h) hs hx hcell h1
theorem Rel.wk{σ w}{v v' : V}{x : Value}(h : Rel σ w v x)(k : Wk v v') : Rel σ w v' x:=by
 cases k with
 |refl=>exact h
 |full xs=>
  cases h with
  |arr0 f a cap hf hsp=>exact .arr0 _ a cap (fun h=>by cases h) hsp
  |arr xs f rb off n cap s ys hne hn hc hf hs hx hcell h1=>exact .arr xs _ rb off n cap s ys hne hn hc (fun h=>by cases h) hs hx hcell h1
 |agg ls=>
  generalize hz : ls.map (fun l=>V.arr l .full)=zs at h
  cases h with
  |agg cs ys hl h0 h1=>
   subst hz
   refine .agg _ ys (by rw[← hl];simp) h0 fun i c hi=> ?_
   rw[List.getElem?_map]at hi
   cases hq : ls[i]? with
   |none=>rw[hq]at hi;cases hi
   |some l=>
    rw[hq]at hi
    have e:=(Option.some.inj hi).symm
    subst e
    exact(h1 i _ (by rw[List.getElem?_map,hq];rfl)).wkF
 |mix ls=>
  generalize hz : ls.map (fun l=>V.arr l.1 (bif l.2 then .full else .no))=zs at h
  cases h with
  |agg cs ys hl h0 h1=>
   subst hz
   refine .agg _ ys (by rw[← hl];simp) h0 fun i c hi=> ?_
   rw[List.getElem?_map]at hi
   cases hq : ls[i]? with
   |none=>rw[hq]at hi;cases hi
   |some l=>
    rw[hq]at hi
    have e:=(Option.some.inj hi).symm
    subst e
    have:=h1 i _ (by rw[List.getElem?_map,hq];rfl)
    obtain⟨l,b⟩:=l
    cases b with
    |true=>exact Rel.wkF this
    |false=>exact this
 |sub xs=>
  by_cases he : xs= []
  ·subst he
   exact Rel.wkF h
  ·generalize hz : xs.map (fun l=>V.arr l .full)=zs at h
   cases h with
   |arr0 f a cap hf hsp=>exact absurd (List.map_eq_nil_iff.1 hz) he
   |arr xs' f rb off n cap s ys hne hn hc hf hs hx hcell h1=>
    subst hz
    rw[fm_arr]at hcell h1
    have hs1 : s=1:=by
     obtain⟨l,xs0,rfl⟩ : ∃ l xs0,xs=l::xs0:=by cases xs with|nil=>exact absurd rfl he|cons a b=>exact⟨a,b,rfl⟩
     exact(hx _ (by simp;exact .inl rfl)).1.symm
    have key : ∀ (j : Nat)(c : V),(xs.map fun l=>V.arr l .no)[j]?=some c→∃ l,c= .arr l .no∧(xs.map fun l=>V.arr l .full)[j]?=some (.arr l .full):=by
     intro j c hj
     rw[List.getElem?_map]at hj
     cases hq : xs[j]? with
     |none=>rw[hq]at hj;cases hj
     |some l=>
      rw[hq]at hj
      exact⟨l,(Option.some.inj hj).symm,by rw[List.getElem?_map,hq];rfl⟩
    refine .arr _ .no rb off n cap s ys (by simpa using he) (by rw[hn];simp) hc (fun h=>by cases h) hs ?_ ?_ ?_
    ·intro x hx'
     obtain⟨l, -,rfl⟩:=List.mem_map.1 hx'
     exact⟨hs1.symm,rfl⟩
    ·rw[fm_arr]
     intro j c hj
     obtain⟨l,rfl,hj2⟩:=key j c hj
     exact hcell j _ hj2
    ·rw[fm_arr]
     intro j c hj
     obtain⟨l,rfl,hj2⟩:=key j c hj
     exact(h1 j _ hj2).wkF
theorem WkL.at{l l' : List V}(h : WkL l l')(i : Nat) : Wk (argF l i) (argF l' i):=by
 induction h generalizing i with
 |nil=>exact .refl _
 |cons h t ih=>
  cases i with
  |zero=>exact h
  |succ i=>exact ih i
theorem WkL.len{l l' : List V}(h : WkL l l') : l.length=l'.length:=by
 induction h with
 |nil=>rfl
 |cons _ _ ih=>simp[ih]
theorem ndA(ls : List (List V)) : (V.agg (ls.map fun l=> .arr l .no)).Nd:=by
 show V.agg _=_
 congr 1
 rw[List.map_map]
 refine List.map_congr_left fun l _=>rfl
theorem leafA(ls : List (List V))(j : Nat){x : Value}{rb : Nat}(h : OwnB (leafV (V.agg (ls.map fun l=> .arr l .no)) j) x rb) : False:=by
 obtain⟨xs,off,n,cap,hv, -, -⟩:=h
 rw[show leafV (V.agg (ls.map fun l=>V.arr l .no)) j=(ls.map fun l=>V.arr l .no).getD j .junk from rfl,List.getD_eq_getElem?_getD,List.getElem?_map]at hv
 cases hq : ls[j]? with
 |none=>rw[hq]at hv;cases hv
 |some l=>rw[hq]at hv;cases hv
theorem mix_eq(ls : List (List V × Bool)) : (ls.map fun l=>V.arr l.1 .no)=(ls.map (·.1)).map fun l=>V.arr l .no:=by rw[List.map_map];rfl
theorem WkL.nd{l l' : List V}(h : WkL l l')(hn : ∀ a,a ∈ l→a.Nd) : ∀ a,a ∈ l'→a.Nd:=by
 induction h with
 |nil=>exact hn
 |cons h t ih=>
  intro a ha
  rcases List.mem_cons.1 ha with rfl|ha
  ·cases h with
   |refl=>exact hn _ (by simp)
   |full xs=>rfl
   |sub xs=>rfl
   |agg ls=>exact ndA ls
   |mix ls=>rw[mix_eq];exact ndA _
  ·exact ih (fun b hb=>hn b (by simp[hb])) a ha
theorem Ret.weak{P : Program}{f : Nat}{args args' : List V}{H H' : Hp}{v : V}(h : Ret P f args' H v H')(k : WkL args args') : Ret P f args H v H':=by
 refine⟨h.1,fun σ w ra hl hst hnd=> ?_⟩
 have own : ∀ i j x rb,OwnB (leafV (argF args' i) j) x rb→leafV (argF args' i) j=leafV (argF args i) j:=fun i j x rb ho=>by
  have:=k.at i
  generalize argF args i=u at this
  generalize argF args' i=u' at this ho
  cases this with
  |refl=>rfl
  |full xs=>
   exfalso
   cases j with
   |zero=>obtain⟨_,_,_,_,e, -, -⟩:=ho;cases e
   |succ j=>exact not_own_junk ho
  |agg ls=>exact(leafA ls j ho).elim
  |mix ls=>rw[mix_eq]at ho;exact(leafA _ j ho).elim
  |sub xs=>
   exfalso
   cases j with
   |zero=>obtain⟨_,_,_,_,e, -, -⟩:=ho;cases e
   |succ j=>exact not_own_junk ho
 obtain⟨s1,o1⟩:=hst.reframe (argF args') ra id (fun i=>(hst.frame i).wk (k.at i)) (fun i j rb ho=>⟨own i j _ rb ho,rfl⟩) (fun i i' j j' rb _ _ e=>e)
 refine(h.2 σ w ra (k.len.symm.trans hl) s1 (k.nd hnd)).mono fun e w' he=> ?_
 obtain⟨x,σ',e1,e2,e3⟩:=he
 exact⟨x,σ',e1,e2,e3.toLe,e3.os,e3.output,e3.tape,e3.size,fun rb q1 q2 q3=>e3.keep rb q1 q2 (fun q=>q3 (o1 rb q)),fun rb q1 q2=>o1 rb (e3.own rb q1 q2),e3.fresh⟩
theorem RetY.weak{P : Program}{b : Nat}{args args' : List V}{H H' : Hp}{v : V}(h : RetY P b args' H v H')(k : WkL args args') : RetY P b args H v H':=by
 intro σ w ra hl hst hnd
 have own : ∀ i j x rb,OwnB (leafV (argF args' i) j) x rb→leafV (argF args' i) j=leafV (argF args i) j:=fun i j x rb ho=>by
  have:=k.at i
  generalize argF args i=u at this
  generalize argF args' i=u' at this ho
  cases this with
  |refl=>rfl
  |full xs=>
   exfalso
   cases j with
   |zero=>obtain⟨_,_,_,_,e, -, -⟩:=ho;cases e
   |succ j=>exact not_own_junk ho
  |agg ls=>exact(leafA ls j ho).elim
  |mix ls=>rw[mix_eq]at ho;exact(leafA _ j ho).elim
  |sub xs=>
   exfalso
   cases j with
   |zero=>obtain⟨_,_,_,_,e, -, -⟩:=ho;cases e
   |succ j=>exact not_own_junk ho
 obtain⟨s1,o1⟩:=hst.reframe (argF args') ra id (fun i=>(hst.frame i).wk (k.at i)) (fun i j rb ho=>⟨own i j _ rb ho,rfl⟩) (fun i i' j j' rb _ _ e=>e)
 obtain⟨f,tmps,as,body,h1,h2⟩:=h σ w ra (k.len.symm.trans hl) s1 (k.nd hnd)
 refine⟨f,tmps,as,body,h1,fun r=>(h2 r).mono fun e w' he=> ?_⟩
 obtain⟨x,σ',e1,e2,e3⟩:=he
 exact⟨x,σ',e1,e2,e3.toLe,e3.os,e3.output,e3.tape,e3.size,fun rb q1 q2 q3=>e3.keep rb q1 q2 (fun q=>q3 (o1 rb q)),fun rb q1 q2=>o1 rb (e3.own rb q1 q2),e3.fresh⟩
theorem call_wk{P : Program}{f : Nat}{args args' : List V}{H H' : Hp}{v : V}{K : V→Hp→Prop}(h : Ret P f args' H v H')(k : WkL args args')(hk : K v H') : CallE P f args H K:=CallE_of ⟨v,H',h.weak k,hk⟩
end Go.Ab
namespace Go.Ab
open Go
section
variable {K : V→Prop}{KH : V→Hp→Prop}{H : Hp}
theorem hp_assoc(H L M : List Blk) : H++L++M=H++(L++M):=List.append_assoc ..
theorem hp_cons(b : Blk)(L M : List Blk) : b::L++M=b::(L++M):=rfl
theorem hp_nil(M : List Blk) : ([] : List Blk)++M=M:=rfl
theorem hp_len(H L : List Blk) : (H++L).length=H.length+L.length:=List.length_append
theorem hp_len_cons(b : Blk)(L : List Blk) : (b::L).length=L.length+1:=rfl
theorem hp_len_nil : ([] : List Blk).length=0:=rfl
theorem hp_setk(L : List Blk)(k : Nat)(c : Blk) : (H++L).set (H.length+k) c=H++L.set k c:=setk H L k c
theorem lv_cons(v : V)(cs : List V) : (v::cs).length=cs.length+1:=rfl
theorem lv_nil : ([] : List V).length=0:=rfl
theorem vs_0(v u : V)(cs : List V) : (v::cs).set 0 u=u::cs:=rfl
theorem vs_s(v u : V)(cs : List V)(k : Nat) : (v::cs).set (k+1) u=v::cs.set k u:=rfl
theorem spl_s(a : V)(cs vs : List V)(j : Nat) : spl (a::cs) (j+1) vs=a::spl cs j vs:=by
 simp only[spl,List.take_succ_cons,List.cons_append]
 rw[show j+1+vs.length=(j+vs.length)+1 by omega,List.drop_succ_cons]
theorem spl_0(a v : V)(cs vs : List V) : spl (a::cs) 0 (v::vs)=v::spl cs 0 vs:=by
 simp only[spl,List.take_zero,List.nil_append,List.cons_append,List.length_cons,Nat.zero_add]
 rw[List.drop_succ_cons]
theorem spl_n(cs : List V) : spl cs 0 []=cs:=by simp[spl]
theorem e_ldb(s : Nat)(b o : Nat)(H : Hp) : aLd s false false (.ptr b o) H KH=(match H[b]? with|some (.cells cs)=>o+s≤cs.length∧KH (cs.getD o .junk).nod H|_=>False):=by
 unfold aLd;rfl
theorem e_ldbA(s : Nat)(b o : Nat)(H : Hp) : aLd s true false (.ptr b o) H KH=(match H[b]? with|some (.cells cs)=>o+s≤cs.length∧KH (V.agg ((cs.drop o).take s)).nod H|_=>False):=by
 unfold aLd;rfl
theorem e_ldbM(s : Nat)(b o : Nat)(H : Hp) : aLd s false true (.ptr b o) H KH=(match H[b]? with|some (.cells cs)=>o+s≤cs.length∧KH (cs.getD o .junk) (H.set b (.cells (cs.set o (cs.getD o .junk).nodL)))|_=>False):=by
 unfold aLd;rfl
theorem dr_s(a : V)(cs : List V)(j : Nat) : (a::cs).drop (j+1)=cs.drop j:=rfl
theorem dr_0(cs : List V) : cs.drop 0=cs:=rfl
theorem tk_s(a : V)(cs : List V)(j : Nat) : (a::cs).take (j+1)=a::cs.take j:=rfl
theorem tk_0(cs : List V) : cs.take 0= []:=by simp
theorem e_resb(s b o : Nat)(H : Hp) : aRes s false (.ptr b o) H K=(match H[b]? with|some (.cells cs)=>o+s≤cs.length∧K (cs.getD o .junk)|_=>False):=by
 unfold aRes;rfl
theorem e_resbA(s b o : Nat)(H : Hp) : aRes s true (.ptr b o) H K=(match H[b]? with|some (.cells cs)=>o+s≤cs.length∧K (V.agg ((cs.drop o).take s))|_=>False):=by
 unfold aRes;rfl
theorem e_lc0(s o : Nat)(a : V)(cs : List V)(L : List Blk) : aLd s false false (.ptr H.length o) (H++ .cells (a::cs)::L) KH=(o+s≤(a::cs).length∧KH ((a::cs).getD o .junk).nod (H++ .cells (a::cs)::L)):=by
 rw[e_ldb]
 simp only[tail0,List.getElem?_cons_zero,List.getElem?_cons_succ,set0,List.set_cons_zero,List.set_cons_succ]
theorem e_lA0(s o : Nat)(a : V)(cs : List V)(L : List Blk) : aLd s true false (.ptr H.length o) (H++ .cells (a::cs)::L) KH=(o+s≤(a::cs).length∧KH (V.agg (((a::cs).drop o).take s)).nod (H++ .cells (a::cs)::L)):=by
 rw[e_ldbA]
 simp only[tail0,List.getElem?_cons_zero,List.getElem?_cons_succ,set0,List.set_cons_zero,List.set_cons_succ]
theorem e_lM0(s o : Nat)(a : V)(cs : List V)(L : List Blk) : aLd s false true (.ptr H.length o) (H++ .cells (a::cs)::L) KH=(o+s≤(a::cs).length∧KH ((a::cs).getD o .junk) (H++ .cells ((a::cs).set o ((a::cs).getD o .junk).nodL)::L)):=by
 rw[e_ldbM]
 simp only[tail0,List.getElem?_cons_zero,List.getElem?_cons_succ,set0,List.set_cons_zero,List.set_cons_succ]
theorem e_sc0(s o : Nat)(a x : V)(cs : List V)(L : List Blk) : aSt s (.ptr H.length o) x (H++ .cells (a::cs)::L) KH=(o+s≤(a::cs).length∧okE s (stV x)∧KH .junk (H++ .cells (spl (a::cs) o (stV x).cl)::L)):=by
 rw[e_st]
 simp only[tail0,List.getElem?_cons_zero,List.getElem?_cons_succ,set0,List.set_cons_zero,List.set_cons_succ]
theorem e_rc0(s o : Nat)(a : V)(cs : List V)(L : List Blk) : aRes s false (.ptr H.length o) (H++ .cells (a::cs)::L) K=(o+s≤(a::cs).length∧K ((a::cs).getD o .junk)):=by
 rw[e_resb]
 simp only[tail0,List.getElem?_cons_zero,List.getElem?_cons_succ,set0,List.set_cons_zero,List.set_cons_succ]
theorem e_rA0(s o : Nat)(a : V)(cs : List V)(L : List Blk) : aRes s true (.ptr H.length o) (H++ .cells (a::cs)::L) K=(o+s≤(a::cs).length∧K (V.agg (((a::cs).drop o).take s))):=by
 rw[e_resbA]
 simp only[tail0,List.getElem?_cons_zero,List.getElem?_cons_succ,set0,List.set_cons_zero,List.set_cons_succ]
theorem e_lI0(o : Nat)(l : List Int)(L : List Blk) : aLd 1 false false (.ptr H.length o) (H++ .cells (l.map I)::L) KH=(o < l.length∧KH (I (l.getD o 0)) (H++ .cells (l.map I)::L)):=by
 rw[e_ldb]
 simp only[tail0,List.getElem?_cons_zero,List.getElem?_cons_succ,set0,List.set_cons_zero,List.set_cons_succ]
 simp only[List.length_map]
 exact propext ⟨fun ⟨h1,h⟩=>⟨h1,by rw[getD_ints l o (by omega)]at h;exact h⟩,fun ⟨h1,h⟩=>⟨h1,by rw[getD_ints l o (by omega)];exact h⟩⟩
theorem e_sI0(o : Nat)(x : Int)(l : List Int)(L : List Blk) : aSt 1 (.ptr H.length o) (I x) (H++ .cells (l.map I)::L) KH=(o < l.length∧KH .junk (H++ .cells ((l.set o x).map I)::L)):=by
 rw[e_st]
 simp only[tail0,List.getElem?_cons_zero,List.getElem?_cons_succ,set0,List.set_cons_zero,List.set_cons_succ]
 simp only[List.length_map,stV_imm,okE_I,cl_imm,true_and]
 exact propext ⟨fun ⟨h1,h⟩=>⟨h1,by rw[spl_one l o x (by omega)]at h;exact h⟩,fun ⟨h1,h⟩=>⟨h1,by rw[spl_one l o x (by omega)];exact h⟩⟩
theorem e_cI0(l ys : List Int)(f : Fl)(o n c s0 : Nat)(L : List Blk) : aCpy 1 (.sl H.length o n c s0) (ints ys f) (H++ .cells (l.map I)::L) KH=(o+min ys.length n≤l.length∧KH (I ((min ys.length n : Nat) : Int)) (H++ .cells ((splI l o (ys.take (min ys.length n))).map I)::L)):=by
 unfold aCpy
 simp only[ints,tail0,List.getElem?_cons_zero,List.getElem?_cons_succ,List.length_map,Nat.mul_one]
 simp only[set0,List.set_cons_zero,List.set_cons_succ,← List.map_take,flat_I,spl_ints]
 simp only[eq_true (szL_ints ys),true_and]
theorem e_lc1(b0 : Blk)(s o : Nat)(a : V)(cs : List V)(L : List Blk) : aLd s false false (.ptr (H.length+1) o) (H++b0:: .cells (a::cs)::L) KH=(o+s≤(a::cs).length∧KH ((a::cs).getD o .junk).nod (H++b0:: .cells (a::cs)::L)):=by
 rw[e_ldb]
 simp only[tailk,List.getElem?_cons_zero,List.getElem?_cons_succ,setk,List.set_cons_zero,List.set_cons_succ]
theorem e_lA1(b0 : Blk)(s o : Nat)(a : V)(cs : List V)(L : List Blk) : aLd s true false (.ptr (H.length+1) o) (H++b0:: .cells (a::cs)::L) KH=(o+s≤(a::cs).length∧KH (V.agg (((a::cs).drop o).take s)).nod (H++b0:: .cells (a::cs)::L)):=by
 rw[e_ldbA]
 simp only[tailk,List.getElem?_cons_zero,List.getElem?_cons_succ,setk,List.set_cons_zero,List.set_cons_succ]
theorem e_lM1(b0 : Blk)(s o : Nat)(a : V)(cs : List V)(L : List Blk) : aLd s false true (.ptr (H.length+1) o) (H++b0:: .cells (a::cs)::L) KH=(o+s≤(a::cs).length∧KH ((a::cs).getD o .junk) (H++b0:: .cells ((a::cs).set o ((a::cs).getD o .junk).nodL)::L)):=by
 rw[e_ldbM]
 simp only[tailk,List.getElem?_cons_zero,List.getElem?_cons_succ,setk,List.set_cons_zero,List.set_cons_succ]
theorem e_sc1(b0 : Blk)(s o : Nat)(a x : V)(cs : List V)(L : List Blk) : aSt s (.ptr (H.length+1) o) x (H++b0:: .cells (a::cs)::L) KH=(o+s≤(a::cs).length∧okE s (stV x)∧KH .junk (H++b0:: .cells (spl (a::cs) o (stV x).cl)::L)):=by
 rw[e_st]
 simp only[tailk,List.getElem?_cons_zero,List.getElem?_cons_succ,setk,List.set_cons_zero,List.set_cons_succ]
theorem e_rc1(b0 : Blk)(s o : Nat)(a : V)(cs : List V)(L : List Blk) : aRes s false (.ptr (H.length+1) o) (H++b0:: .cells (a::cs)::L) K=(o+s≤(a::cs).length∧K ((a::cs).getD o .junk)):=by
 rw[e_resb]
 simp only[tailk,List.getElem?_cons_zero,List.getElem?_cons_succ,setk,List.set_cons_zero,List.set_cons_succ]
theorem e_rA1(b0 : Blk)(s o : Nat)(a : V)(cs : List V)(L : List Blk) : aRes s true (.ptr (H.length+1) o) (H++b0:: .cells (a::cs)::L) K=(o+s≤(a::cs).length∧K (V.agg (((a::cs).drop o).take s))):=by
 rw[e_resbA]
 simp only[tailk,List.getElem?_cons_zero,List.getElem?_cons_succ,setk,List.set_cons_zero,List.set_cons_succ]
theorem e_lI1(b0 : Blk)(o : Nat)(l : List Int)(L : List Blk) : aLd 1 false false (.ptr (H.length+1) o) (H++b0:: .cells (l.map I)::L) KH=(o < l.length∧KH (I (l.getD o 0)) (H++b0:: .cells (l.map I)::L)):=by
 rw[e_ldb]
 simp only[tailk,List.getElem?_cons_zero,List.getElem?_cons_succ,setk,List.set_cons_zero,List.set_cons_succ]
 simp only[List.length_map]
 exact propext ⟨fun ⟨h1,h⟩=>⟨h1,by rw[getD_ints l o (by omega)]at h;exact h⟩,fun ⟨h1,h⟩=>⟨h1,by rw[getD_ints l o (by omega)];exact h⟩⟩
theorem e_sI1(b0 : Blk)(o : Nat)(x : Int)(l : List Int)(L : List Blk) : aSt 1 (.ptr (H.length+1) o) (I x) (H++b0:: .cells (l.map I)::L) KH=(o < l.length∧KH .junk (H++b0:: .cells ((l.set o x).map I)::L)):=by
 rw[e_st]
 simp only[tailk,List.getElem?_cons_zero,List.getElem?_cons_succ,setk,List.set_cons_zero,List.set_cons_succ]
 simp only[List.length_map,stV_imm,okE_I,cl_imm,true_and]
 exact propext ⟨fun ⟨h1,h⟩=>⟨h1,by rw[spl_one l o x (by omega)]at h;exact h⟩,fun ⟨h1,h⟩=>⟨h1,by rw[spl_one l o x (by omega)];exact h⟩⟩
theorem e_cI1(b0 : Blk)(l ys : List Int)(f : Fl)(o n c s0 : Nat)(L : List Blk) : aCpy 1 (.sl (H.length+1) o n c s0) (ints ys f) (H++b0:: .cells (l.map I)::L) KH=(o+min ys.length n≤l.length∧KH (I ((min ys.length n : Nat) : Int)) (H++b0:: .cells ((splI l o (ys.take (min ys.length n))).map I)::L)):=by
 unfold aCpy
 simp only[ints,tailk,List.getElem?_cons_zero,List.getElem?_cons_succ,List.length_map,Nat.mul_one]
 simp only[setk,List.set_cons_zero,List.set_cons_succ,← List.map_take,flat_I,spl_ints]
 simp only[eq_true (szL_ints ys),true_and]
theorem e_lc2(b0 : Blk)(b1 : Blk)(s o : Nat)(a : V)(cs : List V)(L : List Blk) : aLd s false false (.ptr (H.length+2) o) (H++b0::b1:: .cells (a::cs)::L) KH=(o+s≤(a::cs).length∧KH ((a::cs).getD o .junk).nod (H++b0::b1:: .cells (a::cs)::L)):=by
 rw[e_ldb]
 simp only[tailk,List.getElem?_cons_zero,List.getElem?_cons_succ,setk,List.set_cons_zero,List.set_cons_succ]
theorem e_lA2(b0 : Blk)(b1 : Blk)(s o : Nat)(a : V)(cs : List V)(L : List Blk) : aLd s true false (.ptr (H.length+2) o) (H++b0::b1:: .cells (a::cs)::L) KH=(o+s≤(a::cs).length∧KH (V.agg (((a::cs).drop o).take s)).nod (H++b0::b1:: .cells (a::cs)::L)):=by
 rw[e_ldbA]
 simp only[tailk,List.getElem?_cons_zero,List.getElem?_cons_succ,setk,List.set_cons_zero,List.set_cons_succ]
theorem e_lM2(b0 : Blk)(b1 : Blk)(s o : Nat)(a : V)(cs : List V)(L : List Blk) : aLd s false true (.ptr (H.length+2) o) (H++b0::b1:: .cells (a::cs)::L) KH=(o+s≤(a::cs).length∧KH ((a::cs).getD o .junk) (H++b0::b1:: .cells ((a::cs).set o ((a::cs).getD o .junk).nodL)::L)):=by
 rw[e_ldbM]
 simp only[tailk,List.getElem?_cons_zero,List.getElem?_cons_succ,setk,List.set_cons_zero,List.set_cons_succ]
theorem e_sc2(b0 : Blk)(b1 : Blk)(s o : Nat)(a x : V)(cs : List V)(L : List Blk) : aSt s (.ptr (H.length+2) o) x (H++b0::b1:: .cells (a::cs)::L) KH=(o+s≤(a::cs).length∧okE s (stV x)∧KH .junk (H++b0::b1:: .cells (spl (a::cs) o (stV x).cl)::L)):=by
 rw[e_st]
 simp only[tailk,List.getElem?_cons_zero,List.getElem?_cons_succ,setk,List.set_cons_zero,List.set_cons_succ]
theorem e_rc2(b0 : Blk)(b1 : Blk)(s o : Nat)(a : V)(cs : List V)(L : List Blk) : aRes s false (.ptr (H.length+2) o) (H++b0::b1:: .cells (a::cs)::L) K=(o+s≤(a::cs).length∧K ((a::cs).getD o .junk)):=by
 rw[e_resb]
 simp only[tailk,List.getElem?_cons_zero,List.getElem?_cons_succ,setk,List.set_cons_zero,List.set_cons_succ]
theorem e_rA2(b0 : Blk)(b1 : Blk)(s o : Nat)(a : V)(cs : List V)(L : List Blk) : aRes s true (.ptr (H.length+2) o) (H++b0::b1:: .cells (a::cs)::L) K=(o+s≤(a::cs).length∧K (V.agg (((a::cs).drop o).take s))):=by
 rw[e_resbA]
 simp only[tailk,List.getElem?_cons_zero,List.getElem?_cons_succ,setk,List.set_cons_zero,List.set_cons_succ]
theorem e_lI2(b0 : Blk)(b1 : Blk)(o : Nat)(l : List Int)(L : List Blk) : aLd 1 false false (.ptr (H.length+2) o) (H++b0::b1:: .cells (l.map I)::L) KH=(o < l.length∧KH (I (l.getD o 0)) (H++b0::b1:: .cells (l.map I)::L)):=by
 rw[e_ldb]
 simp only[tailk,List.getElem?_cons_zero,List.getElem?_cons_succ,setk,List.set_cons_zero,List.set_cons_succ]
 simp only[List.length_map]
 exact propext ⟨fun ⟨h1,h⟩=>⟨h1,by rw[getD_ints l o (by omega)]at h;exact h⟩,fun ⟨h1,h⟩=>⟨h1,by rw[getD_ints l o (by omega)];exact h⟩⟩
theorem e_sI2(b0 : Blk)(b1 : Blk)(o : Nat)(x : Int)(l : List Int)(L : List Blk) : aSt 1 (.ptr (H.length+2) o) (I x) (H++b0::b1:: .cells (l.map I)::L) KH=(o < l.length∧KH .junk (H++b0::b1:: .cells ((l.set o x).map I)::L)):=by
 rw[e_st]
 simp only[tailk,List.getElem?_cons_zero,List.getElem?_cons_succ,setk,List.set_cons_zero,List.set_cons_succ]
 simp only[List.length_map,stV_imm,okE_I,cl_imm,true_and]
 exact propext ⟨fun ⟨h1,h⟩=>⟨h1,by rw[spl_one l o x (by omega)]at h;exact h⟩,fun ⟨h1,h⟩=>⟨h1,by rw[spl_one l o x (by omega)];exact h⟩⟩
theorem e_cI2(b0 : Blk)(b1 : Blk)(l ys : List Int)(f : Fl)(o n c s0 : Nat)(L : List Blk) : aCpy 1 (.sl (H.length+2) o n c s0) (ints ys f) (H++b0::b1:: .cells (l.map I)::L) KH=(o+min ys.length n≤l.length∧KH (I ((min ys.length n : Nat) : Int)) (H++b0::b1:: .cells ((splI l o (ys.take (min ys.length n))).map I)::L)):=by
 unfold aCpy
 simp only[ints,tailk,List.getElem?_cons_zero,List.getElem?_cons_succ,List.length_map,Nat.mul_one]
 simp only[setk,List.set_cons_zero,List.set_cons_succ,← List.map_take,flat_I,spl_ints]
 simp only[eq_true (szL_ints ys),true_and]
theorem e_lc3(b0 : Blk)(b1 : Blk)(b2 : Blk)(s o : Nat)(a : V)(cs : List V)(L : List Blk) : aLd s false false (.ptr (H.length+3) o) (H++b0::b1::b2:: .cells (a::cs)::L) KH=(o+s≤(a::cs).length∧KH ((a::cs).getD o .junk).nod (H++b0::b1::b2:: .cells (a::cs)::L)):=by
 rw[e_ldb]
 simp only[tailk,List.getElem?_cons_zero,List.getElem?_cons_succ,setk,List.set_cons_zero,List.set_cons_succ]
theorem e_lA3(b0 : Blk)(b1 : Blk)(b2 : Blk)(s o : Nat)(a : V)(cs : List V)(L : List Blk) : aLd s true false (.ptr (H.length+3) o) (H++b0::b1::b2:: .cells (a::cs)::L) KH=(o+s≤(a::cs).length∧KH (V.agg (((a::cs).drop o).take s)).nod (H++b0::b1::b2:: .cells (a::cs)::L)):=by
 rw[e_ldbA]
 simp only[tailk,List.getElem?_cons_zero,List.getElem?_cons_succ,setk,List.set_cons_zero,List.set_cons_succ]
theorem e_lM3(b0 : Blk)(b1 : Blk)(b2 : Blk)(s o : Nat)(a : V)(cs : List V)(L : List Blk) : aLd s false true (.ptr (H.length+3) o) (H++b0::b1::b2:: .cells (a::cs)::L) KH=(o+s≤(a::cs).length∧KH ((a::cs).getD o .junk) (H++b0::b1::b2:: .cells ((a::cs).set o ((a::cs).getD o .junk).nodL)::L)):=by
 rw[e_ldbM]
 simp only[tailk,List.getElem?_cons_zero,List.getElem?_cons_succ,setk,List.set_cons_zero,List.set_cons_succ]
theorem e_sc3(b0 : Blk)(b1 : Blk)(b2 : Blk)(s o : Nat)(a x : V)(cs : List V)(L : List Blk) : aSt s (.ptr (H.length+3) o) x (H++b0::b1::b2:: .cells (a::cs)::L) KH=(o+s≤(a::cs).length∧okE s (stV x)∧KH .junk (H++b0::b1::b2:: .cells (spl (a::cs) o (stV x).cl)::L)):=by
 rw[e_st]
 simp only[tailk,List.getElem?_cons_zero,List.getElem?_cons_succ,setk,List.set_cons_zero,List.set_cons_succ]
theorem e_rc3(b0 : Blk)(b1 : Blk)(b2 : Blk)(s o : Nat)(a : V)(cs : List V)(L : List Blk) : aRes s false (.ptr (H.length+3) o) (H++b0::b1::b2:: .cells (a::cs)::L) K=(o+s≤(a::cs).length∧K ((a::cs).getD o .junk)):=by
 rw[e_resb]
 simp only[tailk,List.getElem?_cons_zero,List.getElem?_cons_succ,setk,List.set_cons_zero,List.set_cons_succ]
theorem e_rA3(b0 : Blk)(b1 : Blk)(b2 : Blk)(s o : Nat)(a : V)(cs : List V)(L : List Blk) : aRes s true (.ptr (H.length+3) o) (H++b0::b1::b2:: .cells (a::cs)::L) K=(o+s≤(a::cs).length∧K (V.agg (((a::cs).drop o).take s))):=by
 rw[e_resbA]
 simp only[tailk,List.getElem?_cons_zero,List.getElem?_cons_succ,setk,List.set_cons_zero,List.set_cons_succ]
theorem e_lI3(b0 : Blk)(b1 : Blk)(b2 : Blk)(o : Nat)(l : List Int)(L : List Blk) : aLd 1 false false (.ptr (H.length+3) o) (H++b0::b1::b2:: .cells (l.map I)::L) KH=(o < l.length∧KH (I (l.getD o 0)) (H++b0::b1::b2:: .cells (l.map I)::L)):=by
 rw[e_ldb]
 simp only[tailk,List.getElem?_cons_zero,List.getElem?_cons_succ,setk,List.set_cons_zero,List.set_cons_succ]
 simp only[List.length_map]
 exact propext ⟨fun ⟨h1,h⟩=>⟨h1,by rw[getD_ints l o (by omega)]at h;exact h⟩,fun ⟨h1,h⟩=>⟨h1,by rw[getD_ints l o (by omega)];exact h⟩⟩
theorem e_sI3(b0 : Blk)(b1 : Blk)(b2 : Blk)(o : Nat)(x : Int)(l : List Int)(L : List Blk) : aSt 1 (.ptr (H.length+3) o) (I x) (H++b0::b1::b2:: .cells (l.map I)::L) KH=(o < l.length∧KH .junk (H++b0::b1::b2:: .cells ((l.set o x).map I)::L)):=by
 rw[e_st]
 simp only[tailk,List.getElem?_cons_zero,List.getElem?_cons_succ,setk,List.set_cons_zero,List.set_cons_succ]
 simp only[List.length_map,stV_imm,okE_I,cl_imm,true_and]
 exact propext ⟨fun ⟨h1,h⟩=>⟨h1,by rw[spl_one l o x (by omega)]at h;exact h⟩,fun ⟨h1,h⟩=>⟨h1,by rw[spl_one l o x (by omega)];exact h⟩⟩
theorem e_cI3(b0 : Blk)(b1 : Blk)(b2 : Blk)(l ys : List Int)(f : Fl)(o n c s0 : Nat)(L : List Blk) : aCpy 1 (.sl (H.length+3) o n c s0) (ints ys f) (H++b0::b1::b2:: .cells (l.map I)::L) KH=(o+min ys.length n≤l.length∧KH (I ((min ys.length n : Nat) : Int)) (H++b0::b1::b2:: .cells ((splI l o (ys.take (min ys.length n))).map I)::L)):=by
 unfold aCpy
 simp only[ints,tailk,List.getElem?_cons_zero,List.getElem?_cons_succ,List.length_map,Nat.mul_one]
 simp only[setk,List.set_cons_zero,List.set_cons_succ,← List.map_take,flat_I,spl_ints]
 simp only[eq_true (szL_ints ys),true_and]
theorem e_lc4(b0 : Blk)(b1 : Blk)(b2 : Blk)(b3 : Blk)(s o : Nat)(a : V)(cs : List V)(L : List Blk) : aLd s false false (.ptr (H.length+4) o) (H++b0::b1::b2::b3:: .cells (a::cs)::L) KH=(o+s≤(a::cs).length∧KH ((a::cs).getD o .junk).nod (H++b0::b1::b2::b3:: .cells (a::cs)::L)):=by
 rw[e_ldb]
 simp only[tailk,List.getElem?_cons_zero,List.getElem?_cons_succ,setk,List.set_cons_zero,List.set_cons_succ]
theorem e_lA4(b0 : Blk)(b1 : Blk)(b2 : Blk)(b3 : Blk)(s o : Nat)(a : V)(cs : List V)(L : List Blk) : aLd s true false (.ptr (H.length+4) o) (H++b0::b1::b2::b3:: .cells (a::cs)::L) KH=(o+s≤(a::cs).length∧KH (V.agg (((a::cs).drop o).take s)).nod (H++b0::b1::b2::b3:: .cells (a::cs)::L)):=by
 rw[e_ldbA]
 simp only[tailk,List.getElem?_cons_zero,List.getElem?_cons_succ,setk,List.set_cons_zero,List.set_cons_succ]
theorem e_lM4(b0 : Blk)(b1 : Blk)(b2 : Blk)(b3 : Blk)(s o : Nat)(a : V)(cs : List V)(L : List Blk) : aLd s false true (.ptr (H.length+4) o) (H++b0::b1::b2::b3:: .cells (a::cs)::L) KH=(o+s≤(a::cs).length∧KH ((a::cs).getD o .junk) (H++b0::b1::b2::b3:: .cells ((a::cs).set o ((a::cs).getD o .junk).nodL)::L)):=by
 rw[e_ldbM]
 simp only[tailk,List.getElem?_cons_zero,List.getElem?_cons_succ,setk,List.set_cons_zero,List.set_cons_succ]
theorem e_sc4(b0 : Blk)(b1 : Blk)(b2 : Blk)(b3 : Blk)(s o : Nat)(a x : V)(cs : List V)(L : List Blk) : aSt s (.ptr (H.length+4) o) x (H++b0::b1::b2::b3:: .cells (a::cs)::L) KH=(o+s≤(a::cs).length∧okE s (stV x)∧KH .junk (H++b0::b1::b2::b3:: .cells (spl (a::cs) o (stV x).cl)::L)):=by
 rw[e_st]
 simp only[tailk,List.getElem?_cons_zero,List.getElem?_cons_succ,setk,List.set_cons_zero,List.set_cons_succ]
theorem e_rc4(b0 : Blk)(b1 : Blk)(b2 : Blk)(b3 : Blk)(s o : Nat)(a : V)(cs : List V)(L : List Blk) : aRes s false (.ptr (H.length+4) o) (H++b0::b1::b2::b3:: .cells (a::cs)::L) K=(o+s≤(a::cs).length∧K ((a::cs).getD o .junk)):=by
 rw[e_resb]
 simp only[tailk,List.getElem?_cons_zero,List.getElem?_cons_succ,setk,List.set_cons_zero,List.set_cons_succ]
theorem e_rA4(b0 : Blk)(b1 : Blk)(b2 : Blk)(b3 : Blk)(s o : Nat)(a : V)(cs : List V)(L : List Blk) : aRes s true (.ptr (H.length+4) o) (H++b0::b1::b2::b3:: .cells (a::cs)::L) K=(o+s≤(a::cs).length∧K (V.agg (((a::cs).drop o).take s))):=by
 rw[e_resbA]
 simp only[tailk,List.getElem?_cons_zero,List.getElem?_cons_succ,setk,List.set_cons_zero,List.set_cons_succ]
theorem e_lI4(b0 : Blk)(b1 : Blk)(b2 : Blk)(b3 : Blk)(o : Nat)(l : List Int)(L : List Blk) : aLd 1 false false (.ptr (H.length+4) o) (H++b0::b1::b2::b3:: .cells (l.map I)::L) KH=(o < l.length∧KH (I (l.getD o 0)) (H++b0::b1::b2::b3:: .cells (l.map I)::L)):=by
 rw[e_ldb]
 simp only[tailk,List.getElem?_cons_zero,List.getElem?_cons_succ,setk,List.set_cons_zero,List.set_cons_succ]
 simp only[List.length_map]
 exact propext ⟨fun ⟨h1,h⟩=>⟨h1,by rw[getD_ints l o (by omega)]at h;exact h⟩,fun ⟨h1,h⟩=>⟨h1,by rw[getD_ints l o (by omega)];exact h⟩⟩
theorem e_sI4(b0 : Blk)(b1 : Blk)(b2 : Blk)(b3 : Blk)(o : Nat)(x : Int)(l : List Int)(L : List Blk) : aSt 1 (.ptr (H.length+4) o) (I x) (H++b0::b1::b2::b3:: .cells (l.map I)::L) KH=(o < l.length∧KH .junk (H++b0::b1::b2::b3:: .cells ((l.set o x).map I)::L)):=by
 rw[e_st]
 simp only[tailk,List.getElem?_cons_zero,List.getElem?_cons_succ,setk,List.set_cons_zero,List.set_cons_succ]
 simp only[List.length_map,stV_imm,okE_I,cl_imm,true_and]
 exact propext ⟨fun ⟨h1,h⟩=>⟨h1,by rw[spl_one l o x (by omega)]at h;exact h⟩,fun ⟨h1,h⟩=>⟨h1,by rw[spl_one l o x (by omega)];exact h⟩⟩
theorem e_cI4(b0 : Blk)(b1 : Blk)(b2 : Blk)(b3 : Blk)(l ys : List Int)(f : Fl)(o n c s0 : Nat)(L : List Blk) : aCpy 1 (.sl (H.length+4) o n c s0) (ints ys f) (H++b0::b1::b2::b3:: .cells (l.map I)::L) KH=(o+min ys.length n≤l.length∧KH (I ((min ys.length n : Nat) : Int)) (H++b0::b1::b2::b3:: .cells ((splI l o (ys.take (min ys.length n))).map I)::L)):=by
 unfold aCpy
 simp only[ints,tailk,List.getElem?_cons_zero,List.getElem?_cons_succ,List.length_map,Nat.mul_one]
 simp only[setk,List.set_cons_zero,List.set_cons_succ,← List.map_take,flat_I,spl_ints]
 simp only[eq_true (szL_ints ys),true_and]
theorem e_lc5(b0 : Blk)(b1 : Blk)(b2 : Blk)(b3 : Blk)(b4 : Blk)(s o : Nat)(a : V)(cs : List V)(L : List Blk) : aLd s false false (.ptr (H.length+5) o) (H++b0::b1::b2::b3::b4:: .cells (a::cs)::L) KH=(o+s≤(a::cs).length∧KH ((a::cs).getD o .junk).nod (H++b0::b1::b2::b3::b4:: .cells (a::cs)::L)):=by
 rw[e_ldb]
 simp only[tailk,List.getElem?_cons_zero,List.getElem?_cons_succ,setk,List.set_cons_zero,List.set_cons_succ]
theorem e_lA5(b0 : Blk)(b1 : Blk)(b2 : Blk)(b3 : Blk)(b4 : Blk)(s o : Nat)(a : V)(cs : List V)(L : List Blk) : aLd s true false (.ptr (H.length+5) o) (H++b0::b1::b2::b3::b4:: .cells (a::cs)::L) KH=(o+s≤(a::cs).length∧KH (V.agg (((a::cs).drop o).take s)).nod (H++b0::b1::b2::b3::b4:: .cells (a::cs)::L)):=by
 rw[e_ldbA]
 simp only[tailk,List.getElem?_cons_zero,List.getElem?_cons_succ,setk,List.set_cons_zero,List.set_cons_succ]
theorem e_lM5(b0 : Blk)(b1 : Blk)(b2 : Blk)(b3 : Blk)(b4 : Blk)(s o : Nat)(a : V)(cs : List V)(L : List Blk) : aLd s false true (.ptr (H.length+5) o) (H++b0::b1::b2::b3::b4:: .cells (a::cs)::L) KH=(o+s≤(a::cs).length∧KH ((a::cs).getD o .junk) (H++b0::b1::b2::b3::b4:: .cells ((a::cs).set o ((a::cs).getD o .junk).nodL)::L)):=by
 rw[e_ldbM]
 simp only[tailk,List.getElem?_cons_zero,List.getElem?_cons_succ,setk,List.set_cons_zero,List.set_cons_succ]
theorem e_sc5(b0 : Blk)(b1 : Blk)(b2 : Blk)(b3 : Blk)(b4 : Blk)(s o : Nat)(a x : V)(cs : List V)(L : List Blk) : aSt s (.ptr (H.length+5) o) x (H++b0::b1::b2::b3::b4:: .cells (a::cs)::L) KH=(o+s≤(a::cs).length∧okE s (stV x)∧KH .junk (H++b0::b1::b2::b3::b4:: .cells (spl (a::cs) o (stV x).cl)::L)):=by
 rw[e_st]
 simp only[tailk,List.getElem?_cons_zero,List.getElem?_cons_succ,setk,List.set_cons_zero,List.set_cons_succ]
theorem e_rc5(b0 : Blk)(b1 : Blk)(b2 : Blk)(b3 : Blk)(b4 : Blk)(s o : Nat)(a : V)(cs : List V)(L : List Blk) : aRes s false (.ptr (H.length+5) o) (H++b0::b1::b2::b3::b4:: .cells (a::cs)::L) K=(o+s≤(a::cs).length∧K ((a::cs).getD o .junk)):=by
 rw[e_resb]
 simp only[tailk,List.getElem?_cons_zero,List.getElem?_cons_succ,setk,List.set_cons_zero,List.set_cons_succ]
theorem e_rA5(b0 : Blk)(b1 : Blk)(b2 : Blk)(b3 : Blk)(b4 : Blk)(s o : Nat)(a : V)(cs : List V)(L : List Blk) : aRes s true (.ptr (H.length+5) o) (H++b0::b1::b2::b3::b4:: .cells (a::cs)::L) K=(o+s≤(a::cs).length∧K (V.agg (((a::cs).drop o).take s))):=by
 rw[e_resbA]
 simp only[tailk,List.getElem?_cons_zero,List.getElem?_cons_succ,setk,List.set_cons_zero,List.set_cons_succ]
theorem e_lI5(b0 : Blk)(b1 : Blk)(b2 : Blk)(b3 : Blk)(b4 : Blk)(o : Nat)(l : List Int)(L : List Blk) : aLd 1 false false (.ptr (H.length+5) o) (H++b0::b1::b2::b3::b4:: .cells (l.map I)::L) KH=(o < l.length∧KH (I (l.getD o 0)) (H++b0::b1::b2::b3::b4:: .cells (l.map I)::L)):=by
 rw[e_ldb]
 simp only[tailk,List.getElem?_cons_zero,List.getElem?_cons_succ,setk,List.set_cons_zero,List.set_cons_succ]
 simp only[List.length_map]
 exact propext ⟨fun ⟨h1,h⟩=>⟨h1,by rw[getD_ints l o (by omega)]at h;exact h⟩,fun ⟨h1,h⟩=>⟨h1,by rw[getD_ints l o (by omega)];exact h⟩⟩
theorem e_sI5(b0 : Blk)(b1 : Blk)(b2 : Blk)(b3 : Blk)(b4 : Blk)(o : Nat)(x : Int)(l : List Int)(L : List Blk) : aSt 1 (.ptr (H.length+5) o) (I x) (H++b0::b1::b2::b3::b4:: .cells (l.map I)::L) KH=(o < l.length∧KH .junk (H++b0::b1::b2::b3::b4:: .cells ((l.set o x).map I)::L)):=by
 rw[e_st]
 simp only[tailk,List.getElem?_cons_zero,List.getElem?_cons_succ,setk,List.set_cons_zero,List.set_cons_succ]
 simp only[List.length_map,stV_imm,okE_I,cl_imm,true_and]
 exact propext ⟨fun ⟨h1,h⟩=>⟨h1,by rw[spl_one l o x (by omega)]at h;exact h⟩,fun ⟨h1,h⟩=>⟨h1,by rw[spl_one l o x (by omega)];exact h⟩⟩
theorem e_cI5(b0 : Blk)(b1 : Blk)(b2 : Blk)(b3 : Blk)(b4 : Blk)(l ys : List Int)(f : Fl)(o n c s0 : Nat)(L : List Blk) : aCpy 1 (.sl (H.length+5) o n c s0) (ints ys f) (H++b0::b1::b2::b3::b4:: .cells (l.map I)::L) KH=(o+min ys.length n≤l.length∧KH (I ((min ys.length n : Nat) : Int)) (H++b0::b1::b2::b3::b4:: .cells ((splI l o (ys.take (min ys.length n))).map I)::L)):=by
 unfold aCpy
 simp only[ints,tailk,List.getElem?_cons_zero,List.getElem?_cons_succ,List.length_map,Nat.mul_one]
 simp only[setk,List.set_cons_zero,List.set_cons_succ,← List.map_take,flat_I,spl_ints]
 simp only[eq_true (szL_ints ys),true_and]
theorem e_bxI(s : Nat)(v : V)(H : Hp) : aBx true s v H KH=(okE s v∧KH (.cptr v) H):=rfl
theorem e_fac(off : Nat)(cs : List V) : aFA off 1 false (.cptr (.agg cs)) K=(off+1≤cs.length∧K (.cptr (cs.getD off .junk))):=rfl
theorem e_facA(off s : Nat)(cs : List V) : aFA off s true (.cptr (.agg cs)) K=(off+s≤cs.length∧K (.cptr (.agg ((cs.drop off).take s)))):=rfl
theorem e_ldcA(s : Nat)(cs : List V)(H : Hp) : aLd s true false (.cptr (.agg cs)) H KH=(cs.length=s∧KH (.agg cs) H):=rfl
theorem e_ldcL(l : List (List Int))(f : Fl)(H : Hp) : aLd 1 false false (.cptr (lists l f)) H KH=KH (lists l f) H:=rfl
theorem e_ldcF(f : Nat)(cs : List V)(H : Hp) : aLd 1 false false (.cptr (.fn f cs)) H KH=KH (.fn f cs) H:=rfl
theorem okE_agg(n : Nat)(cs : List V) : okE n (.agg cs)=(cs.length=n∧cs.all cellOk=true):=by
 unfold okE
 simp[V.cl]
theorem ck_I(n : Int) : cellOk (I n)=true:=rfl
theorem ck_B(b : Bool) : cellOk (B b)=true:=rfl
theorem ck_ints(l : List Int)(f : Fl) : cellOk (ints l f)=true:=rfl
theorem ck_lists(l : List (List Int))(f : Fl) : cellOk (lists l f)=true:=rfl
theorem ck_arr(l : List V)(f : Fl) : cellOk (.arr l f)=true:=rfl
theorem ck_ptr(b o : Nat) : cellOk (.ptr b o)=true:=rfl
theorem ck_cptr(v : V) : cellOk (.cptr v)=true:=rfl
theorem ck_fn(f : Nat)(cs : List V) : cellOk (.fn f cs)=true:=rfl
theorem all_c(p : V→Bool)(a : V)(l : List V) : (a::l).all p=(p a && l.all p):=rfl
theorem all_n(p : V→Bool) : ([] : List V).all p=true:=rfl
theorem stV_agg(c : V)(cs : List V) : stV (.agg (c::cs))= .agg (c::cs.map V.nodL):=rfl
theorem own0_arr(c : V)(cs xs : List V)(f : Fl) : own0 (.agg (c::cs)) (.arr xs f)= .agg (.arr xs f::cs):=rfl
theorem own0_ints(c : V)(cs : List V)(l : List Int)(f : Fl) : own0 (.agg (c::cs)) (ints l f)= .agg (ints l f::cs):=rfl
theorem own0_lists(c : V)(cs : List V)(l : List (List Int))(f : Fl) : own0 (.agg (c::cs)) (lists l f)= .agg (lists l f::cs):=rfl
theorem own0_imm(cs : List V)(x : Value) : own0 (.agg cs) (.imm x)= .agg cs:=by cases cs <;> rfl
theorem own0_ptr(cs : List V)(b o : Nat) : own0 (.agg cs) (.ptr b o)= .agg cs:=by cases cs <;> rfl
theorem own0_cptr(cs : List V)(v : V) : own0 (.agg cs) (.cptr v)= .agg cs:=by cases cs <;> rfl
theorem own0_fn(cs : List V)(f : Nat)(l : List V) : own0 (.agg cs) (.fn f l)= .agg cs:=by cases cs <;> rfl
theorem own0_agg(cs l : List V) : own0 (.agg cs) (.agg l)= .agg cs:=by cases cs <;> rfl
theorem stV_lists(l : List (List Int))(f : Fl) : stV (lists l f)=lists l f:=rfl
theorem stV_arr(l : List V)(f : Fl) : stV (.arr l f)= .arr l f:=rfl
theorem stV_ptr(b o : Nat) : stV (.ptr b o)= .ptr b o:=rfl
theorem stV_cptr(v : V) : stV (.cptr v)= .cptr v:=rfl
theorem stV_fn(f : Nat)(cs : List V) : stV (.fn f cs)= .fn f cs:=rfl
theorem nodL_ints(l : List Int)(f : Fl) : (ints l f).nodL=ints l f.nd:=by cases f <;> rfl
theorem nodL_lists(l : List (List Int))(f : Fl) : (lists l f).nodL=lists l f.nd:=by cases f <;> rfl
theorem nodL_ptr(b o : Nat) : (V.ptr b o).nodL= .ptr b o:=rfl
theorem nodL_cptr(v : V) : (V.cptr v).nodL= .cptr v:=rfl
theorem nodL_fn(f : Nat)(cs : List V) : (V.fn f cs).nodL= .fn f cs:=rfl
theorem nodL_arr0 : (V.arr [] .full).nodL= .arr [] .full:=rfl
theorem cl_arr(l : List V)(f : Fl) : (V.arr l f).cl= [.arr l f]:=rfl
theorem cl_ptr(b o : Nat) : (V.ptr b o).cl= [.ptr b o]:=rfl
theorem cl_cptr(v : V) : (V.cptr v).cl= [.cptr v]:=rfl
theorem cl_fn(f : Nat)(cs : List V) : (V.fn f cs).cl= [.fn f cs]:=rfl
theorem cl_lists(l : List (List Int))(f : Fl) : (lists l f).cl= [lists l f]:=rfl
theorem okE_arr(l : List V)(f : Fl) : okE 1 (.arr l f)=True:=eq_true ⟨rfl,fun c hc=>by simp[V.cl]at hc;subst hc;rfl⟩
theorem okE_fn(f : Nat)(cs : List V) : okE 1 (.fn f cs)=True:=eq_true ⟨rfl,fun c hc=>by simp[V.cl]at hc;subst hc;rfl⟩
theorem ck_sl(b o n c s : Nat) : cellOk (.sl b o n c s)=true:=rfl
theorem own0_sl(cs : List V)(b o n c s : Nat) : own0 (.agg cs) (.sl b o n c s)= .agg cs:=by cases cs <;> rfl
theorem stV_sl(b o n c s : Nat) : stV (.sl b o n c s)= .sl b o n c s:=rfl
theorem nodL_sl(b o n c s : Nat) : (V.sl b o n c s).nodL= .sl b o n c s:=rfl
theorem cl_sl(b o n c s : Nat) : (V.sl b o n c s).cl= [.sl b o n c s]:=rfl
theorem okE_sl(b o n c s : Nat) : okE 1 (.sl b o n c s)=True:=eq_true ⟨rfl,fun c hc=>by simp[V.cl]at hc;subst hc;rfl⟩
theorem okE_ptr(b o : Nat) : okE 1 (.ptr b o)=True:=eq_true ⟨rfl,fun c hc=>by simp[V.cl]at hc;subst hc;rfl⟩
theorem okE_cptr(v : V) : okE 1 (.cptr v)=True:=eq_true ⟨rfl,fun c hc=>by simp[V.cl]at hc;subst hc;rfl⟩
theorem e_bd0(cs : List V) : aBd cs [] K=K (.agg cs):=rfl
theorem e_bd1(cs : List V)(o s : Nat)(v : V)(l : List (Nat × Nat × V)) : aBd cs ((o,s,v)::l) K=(okE s v∧o+s≤cs.length∧aBd (spl cs o v.cl) l K):=rfl
end
end Go.Ab
namespace Go.Ab
open Go
theorem hd_NilS{a} {b} {c} {K0}(h : ∀ K,∀ Q : Prop,K=K0→Q=True→aNilS a b c K) : aNilS a b c K0:=h K0 True rfl rfl
theorem hd_NilP{a} {b} {c} {K0}(h : ∀ K,∀ Q : Prop,K=K0→Q=True→aNilP a b c K) : aNilP a b c K0:=h K0 True rfl rfl
theorem hd_Bin{a} {b} {c} {d} {K0}(h : ∀ K,∀ Q : Prop,K=K0→Q=True→aBin a b c d K) : aBin a b c d K0:=h K0 True rfl rfl
theorem hd_Un{a} {b} {K0}(h : ∀ K,∀ Q : Prop,K=K0→Q=True→aUn a b K) : aUn a b K0:=h K0 True rfl rfl
theorem hd_Ext{a} {b} {K0}(h : ∀ K,∀ Q : Prop,K=K0→Q=True→aExt a b K) : aExt a b K0:=h K0 True rfl rfl
theorem hd_Bx{a} {b} {c} {d} {K0}(h : ∀ K,∀ Q : Prop,K=K0→Q=True→aBx a b c d K) : aBx a b c d K0:=h K0 True rfl rfl
theorem hd_FA{a} {b} {c} {d} {K0}(h : ∀ K,∀ Q : Prop,K=K0→Q=True→aFA a b c d K) : aFA a b c d K0:=h K0 True rfl rfl
theorem hd_Ld{a} {b} {c} {d} {e} {K0}(h : ∀ K,∀ Q : Prop,K=K0→Q=True→aLd a b c d e K) : aLd a b c d e K0:=h K0 True rfl rfl
theorem hd_St{a} {b} {c} {d} {K0}(h : ∀ K,∀ Q : Prop,K=K0→Q=True→aSt a b c d K) : aSt a b c d K0:=h K0 True rfl rfl
theorem hd_Ix{a} {b} {c} {K0}(h : ∀ K,∀ Q : Prop,K=K0→Q=True→aIx a b c K) : aIx a b c K0:=h K0 True rfl rfl
theorem hd_IxA{a} {b} {c} {d} {e} {K0}(h : ∀ K,∀ Q : Prop,K=K0→Q=True→aIxA a b c d e K) : aIxA a b c d e K0:=h K0 True rfl rfl
theorem hd_Slc{a} {b} {c} {d} {e} {K0}(h : ∀ K,∀ Q : Prop,K=K0→Q=True→aSlc a b c d e K) : aSlc a b c d e K0:=h K0 True rfl rfl
theorem hd_Mk{a} {b} {c} {d} {e} {f} {K0}(h : ∀ K,∀ Q : Prop,K=K0→Q=True→aMk a b c d e f K) : aMk a b c d e f K0:=h K0 True rfl rfl
theorem hd_BS{a} {b} {c} {d} {K0}(h : ∀ K,∀ Q : Prop,K=K0→Q=True→aBS a b c d K) : aBS a b c d K0:=h K0 True rfl rfl
theorem hd_Bd{a} {b} {K0}(h : ∀ K,∀ Q : Prop,K=K0→Q=True→aBd a b K) : aBd a b K0:=h K0 True rfl rfl
theorem hd_NC{a} {K0}(h : ∀ K,∀ Q : Prop,K=K0→Q=True→aNC a K) : aNC a K0:=h K0 True rfl rfl
theorem hd_Cv{a} {b} {K0}(h : ∀ K,∀ Q : Prop,K=K0→Q=True→aCv a b K) : aCv a b K0:=h K0 True rfl rfl
theorem hd_Len{a} {K0}(h : ∀ K,∀ Q : Prop,K=K0→Q=True→aLen a K) : aLen a K0:=h K0 True rfl rfl
theorem hd_LenT{a} {K0}(h : ∀ K,∀ Q : Prop,K=K0→Q=True→aLenT a K) : aLenT a K0:=h K0 True rfl rfl
theorem hd_App{a} {b} {c} {d} {K0}(h : ∀ K,∀ Q : Prop,K=K0→Q=True→aApp a b c d K) : aApp a b c d K0:=h K0 True rfl rfl
theorem hd_AppB{a} {b} {c} {d} {e} {K0}(h : ∀ K,∀ Q : Prop,K=K0→Q=True→aAppB a b c d e K) : aAppB a b c d e K0:=h K0 True rfl rfl
theorem hd_Cpy{a} {b} {c} {d} {K0}(h : ∀ K,∀ Q : Prop,K=K0→Q=True→aCpy a b c d K) : aCpy a b c d K0:=h K0 True rfl rfl
theorem hd_MM{a} {b} {K0}(h : ∀ K,∀ Q : Prop,K=K0→Q=True→aMM a b K) : aMM a b K0:=h K0 True rfl rfl
theorem hd_Res{a} {b} {c} {d} {K0}(h : ∀ K,∀ Q : Prop,K=K0→Q=True→aRes a b c d K) : aRes a b c d K0:=h K0 True rfl rfl
theorem hd_Pick{a} {b} {c} {K0}(h : ∀ K,∀ Q : Prop,K=K0→Q=True→aPick a b c K) : aPick a b c K0:=h K0 True rfl rfl
theorem hd_CallG{a} {b} {c} {d} {K0}(h : ∀ K,∀ Q : Prop,K=K0→Q=True→aCallG a b c d K) : aCallG a b c d K0:=h K0 True rfl rfl
theorem hd_Cond{a}{K0 Q0 : Prop}(h : ∀ K Q : Prop,K=K0→Q=Q0→aCond a K Q) : aCond a K0 Q0:=h K0 Q0 rfl rfl
theorem hd_G{a b}{K0 Q0 : Prop}(h : ∀ K Q : Prop,K=K0→Q=Q0→aG a b K Q) : aG a b K0 Q0:=h K0 Q0 rfl rfl
theorem hd_If{p : Prop} [Decidable p] {K0 Q0 : Prop}(h : ∀ K Q : Prop,K=K0→Q=Q0→if p then K else Q) : if p then K0 else Q0:=h K0 Q0 rfl rfl
theorem hd_Cd{p : Bool}{K0 Q0 : Prop}(h : ∀ K Q : Prop,K=K0→Q=Q0→bif p then K else Q) : bif p then K0 else Q0:=h K0 Q0 rfl rfl
theorem hd_Ok{n : Nat}{v : V}{K0 : Prop}(h : ∀ K Q : Prop,K=K0→Q=True→okE n v∧K) : okE n v∧K0:=h K0 True rfl rfl
def Rn(rest : List V→Hp→Prop)(l : List V)(H : Hp) : Prop:=rest l H
def Rv(rest : V→Hp→Prop)(v : V)(H : Hp) : Prop:=rest v H
theorem jn_go{rest : List V→Hp→Prop}{body : (List V→Hp→Prop)→Prop}(h : body (Rn rest)) : Jn rest body:=h
theorem jv_go{rest : V→Hp→Prop}{body : (V→Hp→Prop)→Prop}(h : body (Rv rest)) : Jv rest body:=h
theorem hd_Rn{l H} {K0}(h : ∀ K,∀ Q : Prop,K=K0→Q=True→Rn K l H) : Rn K0 l H:=h K0 True rfl rfl
theorem hd_Rv{l H} {K0}(h : ∀ K,∀ Q : Prop,K=K0→Q=True→Rv K l H) : Rv K0 l H:=h K0 True rfl rfl
theorem hd_Jv{body : (V→Hp→Prop)→Prop} {K0}(h : ∀ K,∀ Q : Prop,K=K0→Q=True→Jv K body) : Jv K0 body:=h K0 True rfl rfl
theorem hd_CallA{P f a H} {K0}(h : ∀ K,∀ Q : Prop,K=K0→Q=True→CallA P f a H K) : CallA P f a H K0:=h K0 True rfl rfl
theorem hd_CallE{P f a H} {K0}(h : ∀ K,∀ Q : Prop,K=K0→Q=True→CallE P f a H K) : CallE P f a H K0:=h K0 True rfl rfl
theorem hd_CallEG{a b c d} {K0}(h : ∀ K,∀ Q : Prop,K=K0→Q=True→aCallEG a b c d K) : aCallEG a b c d K0:=h K0 True rfl rfl
theorem hd_CalmA{P f a H} {K0}(h : ∀ K,∀ Q : Prop,K=K0→Q=True→CalmA P f a H K) : CalmA P f a H K0:=h K0 True rfl rfl
theorem rn_go{rest : List V→Hp→Prop} {l H}(h : rest l H) : Rn rest l H:=h
theorem rv_go{rest : V→Hp→Prop} {l H}(h : rest l H) : Rv rest l H:=h
theorem tr_go{K : Prop}(h : K) : True∧K:=⟨trivial,h⟩
theorem ud_go{x : V}{K : Prop}(h : K) : x=x∧K:=⟨rfl,h⟩
end Go.Ab
namespace Go.Ab
open Go
section
variable {P : Program}{K : V→Prop}{KH : V→Hp→Prop}{H : Hp}
theorem g_eqS{t : TypeId}{op : BinOp}{x x' y y' : V}(h : x=x')(h' : y=y') : aEqS P t op x y K=aEqS P t op x' y' K:=by rw[h,h']
theorem g_eqP{op : BinOp}{x x' y y' : V}{H' : Hp}(h : x=x')(h' : y=y')(h2 : H=H') : aEqP op x y H K=aEqP op x' y' H' K:=by rw[h,h',h2]
theorem g_fd{o s : Nat}{ag : Bool}{x x' : V}(h : x=x') : aFd o s ag x K=aFd o s ag x' K:=by rw[h]
theorem g_ixT{x x' y y' : V}(h : x=x')(h' : y=y') : aIxT x y K=aIxT x' y' K:=by rw[h,h']
theorem g_ta{t : TypeId}{ok : Bool}{x x' : V}(h : x=x') : aTA t ok x K=aTA t ok x' K:=by rw[h]
theorem g_lkp{t : TypeId}{z : V}{ok : Bool}{x x' k k' : V}{H' : Hp}(h : x=x')(h' : k=k')(h2 : H=H') : aLkp P t z ok x k H K=aLkp P t z ok x' k' H' K:=by rw[h,h',h2]
theorem g_upd{t : TypeId}{x x' k k' v v' : V}{H' : Hp}(h : x=x')(h' : k=k')(h1 : v=v')(h2 : H=H') : aUpd P t x k v H KH=aUpd P t x' k' v' H' KH:=by rw[h,h',h1,h2]
theorem g_mkM{H' : Hp}(h : H=H') : aMkM H KH=aMkM H' KH:=by rw[h]
theorem e_nilSl(t : TypeId)(b o n c s : Nat) : aNilS (some (.slice t)) .eql (.sl b o n c s) K=K (B false):=rfl
theorem g_zr{z : V}{b : Nat}{y y' : V}(h : y=y') : aZr z b y K=aZr z b y' K:=by rw[h]
theorem g_appS{s n : Nat}{x x' y y' : V}{H' : Hp}(h : x=x')(h' : y=y')(h2 : H=H') : aAppS s n x y H KH=aAppS s n x' y' H' KH:=by rw[h,h',h2]
theorem g_invE{nm : String}{x x' : V}{l l' : List V}{H' : Hp}(h : x=x')(h' : l=l')(h2 : H=H') : aInvE P nm x l H KH=aInvE P nm x' l' H' KH:=by rw[h,h',h2]
theorem g_inv{nm : String}{x x' : V}{l l' : List V}{H' : Hp}(h : x=x')(h' : l=l')(h2 : H=H') : aInv P nm x l H KH=aInv P nm x' l' H' KH:=by rw[h,h',h2]
theorem hd_EqS{a b c d} {K0}(h : ∀ K,∀ Q : Prop,K=K0→Q=True→aEqS P a b c d K) : aEqS P a b c d K0:=h K0 True rfl rfl
theorem hd_EqP{a b c d} {K0}(h : ∀ K,∀ Q : Prop,K=K0→Q=True→aEqP a b c d K) : aEqP a b c d K0:=h K0 True rfl rfl
theorem hd_Fd{a b c d} {K0}(h : ∀ K,∀ Q : Prop,K=K0→Q=True→aFd a b c d K) : aFd a b c d K0:=h K0 True rfl rfl
theorem hd_IxT{a b} {K0}(h : ∀ K,∀ Q : Prop,K=K0→Q=True→aIxT a b K) : aIxT a b K0:=h K0 True rfl rfl
theorem hd_TA{a b c} {K0}(h : ∀ K,∀ Q : Prop,K=K0→Q=True→aTA a b c K) : aTA a b c K0:=h K0 True rfl rfl
theorem hd_Lkp{a b c d e f} {K0}(h : ∀ K,∀ Q : Prop,K=K0→Q=True→aLkp P a b c d e f K) : aLkp P a b c d e f K0:=h K0 True rfl rfl
theorem hd_Upd{a b c d e} {K0}(h : ∀ K,∀ Q : Prop,K=K0→Q=True→aUpd P a b c d e K) : aUpd P a b c d e K0:=h K0 True rfl rfl
theorem hd_MkM{a} {K0}(h : ∀ K,∀ Q : Prop,K=K0→Q=True→aMkM a K) : aMkM a K0:=h K0 True rfl rfl
theorem hd_Zr{a b c} {K0}(h : ∀ K,∀ Q : Prop,K=K0→Q=True→aZr a b c K) : aZr a b c K0:=h K0 True rfl rfl
theorem e_zr(z : V)(b : Nat)(n : Int) : aZr z b (I n) K=(0≤n∧n*b≤140737488355328∧K (.arr (List.replicate n.toNat z) .no)):=rfl
theorem hd_AppS{a b c d e} {K0}(h : ∀ K,∀ Q : Prop,K=K0→Q=True→aAppS a b c d e K) : aAppS a b c d e K0:=h K0 True rfl rfl
theorem hd_InvE{a b c d} {K0}(h : ∀ K,∀ Q : Prop,K=K0→Q=True→aInvE P a b c d K) : aInvE P a b c d K0:=h K0 True rfl rfl
theorem hd_Inv{a b c d} {K0}(h : ∀ K,∀ Q : Prop,K=K0→Q=True→aInv P a b c d K) : aInv P a b c d K0:=h K0 True rfl rfl
theorem e_mkM : aMkM H KH=KH (.map H.length) (H++ [.mp []]):=rfl
theorem e_mkI(n x : Int)(bytes : Nat) : aMk false (I x) bytes (I n) (I n) H KH=(0≤n∧n*bytes≤140737488355328∧KH (.sl H.length 0 n.toNat n.toNat 1) (H++ [.cells ((List.replicate n.toNat x).map I)])):=by
 rw[e_mk]
 have : (List.replicate n.toNat (V.imm (.int .i64 x)).cl).flatten=(List.replicate n.toNat x).map I:=rep_fl n.toNat x
 rw[this]
 rfl
theorem e_mkIm(n : Int)(z : V)(bytes : Nat) : aMk true z bytes (I n) (I n) H KH=(0≤n∧n*bytes≤140737488355328∧KH (.arr (List.replicate n.toNat z) .full) H):=by
 simp[aMk]
theorem e_callB(C : Cb)(f : Nat)(first args : List V)(H : Hp)(K : V→Hp→Prop) : aCallG C (.bfn f first) args H K=C.call f (first++args) H K:=rfl
theorem nod_bfn(f : Nat)(cs : List V) : (V.bfn f cs).nod= .bfn f cs:=rfl
theorem nod_ifc(t : Nat)(v : V) : (V.ifc t v).nod= .ifc t v:=rfl
theorem nod_map(b : Nat) : (V.map b).nod= .map b:=rfl
theorem nodL_ifc(t : Nat)(v : V) : (V.ifc t v).nodL= .ifc t v:=rfl
theorem nodL_bfn(f : Nat)(cs : List V) : (V.bfn f cs).nodL= .bfn f cs:=rfl
theorem cl_ifc(t : Nat)(v : V) : (V.ifc t v).cl= [.ifc t v]:=rfl
theorem cl_bfn(f : Nat)(cs : List V) : (V.bfn f cs).cl= [.bfn f cs]:=rfl
theorem ck_ifc(t : Nat)(v : V) : cellOk (.ifc t v)=true:=rfl
theorem ck_bfn(f : Nat)(cs : List V) : cellOk (.bfn f cs)=true:=rfl
theorem ck_map(b : Nat) : cellOk (.map b)=true:=rfl
theorem nodL_map(b : Nat) : (V.map b).nodL= .map b:=rfl
theorem stV_ifc(t : Nat)(v : V) : stV (.ifc t v)= .ifc t v:=rfl
theorem okE_ifc(t : Nat)(v : V) : okE 1 (.ifc t v)=True:=eq_true ⟨rfl,fun c hc=>by simp[V.cl]at hc;subst hc;rfl⟩
theorem okE_bfn(f : Nat)(cs : List V) : okE 1 (.bfn f cs)=True:=eq_true ⟨rfl,fun c hc=>by simp[V.cl]at hc;subst hc;rfl⟩
theorem invE_val{nm : String}{t : Nat}{v : V}{args : List V}{f : Nat}{d : TypeDesc}(hm : methOf P t nm=some (f,false))(hu : P.underlying t=some d)(hn : ∀ e,d≠ .pointer e)(h : CallE P f (v::args) H KH) : aInvE P nm (.ifc t v) args H KH:=by
 unfold aInvE
 simp only[hm,hu]
 exact h
theorem e_ixE{α : Type}(e : α→V)(d : α){s : Nat}(he : ∀ x,(e x).cl.length=s)(l : List α)(f : Fl)(i : Int) : aIx s (.arr (l.map e) f) (I i) K=(0≤i∧i < l.length∧K (.cptr (e (l.getD i.toNat d)))):=by
 have g : ∀ k,k < l.length→(l.map e).getD k .junk=e (l.getD k d):=fun k h=>by simp[List.getD_eq_getElem?_getD,h]
 simp only[aIx,List.length_map]
 refine propext ⟨fun ⟨h1,h2,_,h⟩=>⟨h1,h2,?_⟩,fun ⟨h1,h2,h⟩=>⟨h1,h2,?_,?_⟩⟩
 ·rw[g _ (by omega)]at h;exact h
 ·rw[g _ (by omega)];exact he _
 ·rw[g _ (by omega)];exact h
theorem szL_E{α : Type}{e : α→V}{s : Nat}(he : ∀ x,(e x).cl.length=s)(l : List α) : SzL s (l.map e):=fun u hu=>by obtain⟨x, -,rfl⟩:=List.mem_map.1 hu;exact he x
theorem e_appE{α : Type}(e : α→V){s : Nat}(he : ∀ x,(e x).cl.length=s)(n : Nat)(l l' : List α)(f g : Fl) : aApp s n (.arr (l.map e) f) (.arr (l'.map e) g) K=(f.ap=true∧(l.length+l'.length)*n≤140737488355328∧K (.arr ((l++l').map e) .own)):=by
 simp only[aApp,List.length_map,ap_ne,szL_E he,true_and,List.map_append]
theorem e_slcHiE{α : Type}(e : α→V){s : Nat}(he : ∀ x,(e x).cl.length=s)(l : List α)(f : Fl)(i : Int) : aSlc s (.arr (l.map e) f) none (some (I i)) none K=(0≤i∧i≤l.length∧K (.arr ((l.take i.toNat).map e) .no)):=by
 simp only[aSlc,szL_E he,true_and,List.length_map,List.map_take]
theorem nod_arr(l : List V)(f : Fl) : (V.arr l f).nod= .arr l f.nd:=by cases f <;> rfl
theorem nodL_arr(l : List V)(f : Fl) : (V.arr l f).nodL= .arr l f.nd:=by cases f <;> rfl
theorem end_anyA{n : Nat}{H : Hp}{l : List V}{f : Fl}(hb : Bel n (.arr l .no)) : Fz n H (.arr l f) (.arr l .no):=by
 have hb' : ∀ g,Bel n (.arr l g):=fun g=>by cases hb with|arr _ _ h=>exact .arr _ _ h
 cases f
 ·exact .keep _ (hb' _)
 ·exact .nodL _ (hb' _)
 ·exact .full _ (hb' _)
theorem ld_at{b o s : Nat}{cs : List V}(h : H[b]?=some (.cells cs)) : aLd s false false (.ptr b o) H KH=(o+s≤cs.length∧KH (cs.getD o .junk).nod H):=by simp[aLd,h,cutA]
theorem ldA_at{b o s : Nat}{cs : List V}(h : H[b]?=some (.cells cs)) : aLd s true false (.ptr b o) H KH=(o+s≤cs.length∧KH (V.agg ((cs.drop o).take s)).nod H):=by simp[aLd,h,cutA]
theorem ldM_at{b o s : Nat}{cs : List V}(h : H[b]?=some (.cells cs)) : aLd s false true (.ptr b o) H KH=(o+s≤cs.length∧KH (cs.getD o .junk) (H.set b (.cells (cs.set o (cs.getD o .junk).nodL)))):=by simp[aLd,h]
theorem st_at{b o s : Nat}{x : V}{cs : List V}(h : H[b]?=some (.cells cs)) : aSt s (.ptr b o) x H KH=(o+s≤cs.length∧okE s (stV x)∧KH .junk (H.set b (.cells (spl cs o (stV x).cl)))):=by simp[aSt,h]
theorem ldset{b o s : Nat}{cs : List V}(hb : b < H.length) : aLd s false false (.ptr b o) (H.set b (.cells cs)) KH=(o+s≤cs.length∧KH (cs.getD o .junk).nod (H.set b (.cells cs))):=ld_at (List.getElem?_set_self hb)
theorem ldsetM{b o s : Nat}{cs : List V}(hb : b < H.length) : aLd s false true (.ptr b o) (H.set b (.cells cs)) KH=(o+s≤cs.length∧KH (cs.getD o .junk) (H.set b (.cells (cs.set o (cs.getD o .junk).nodL)))):=by rw[ldM_at (List.getElem?_set_self hb),List.set_set]
theorem stset{b o s : Nat}{x : V}{cs : List V}(hb : b < H.length) : aSt s (.ptr b o) x (H.set b (.cells cs)) KH=(o+s≤cs.length∧okE s (stV x)∧KH .junk (H.set b (.cells (spl cs o (stV x).cl)))):=by rw[st_at (List.getElem?_set_self hb),List.set_set]
theorem res_at{b o s : Nat}{cs : List V}(h : H[b]?=some (.cells cs)) : aRes s false (.ptr b o) H K=(o+s≤cs.length∧K (cs.getD o .junk)):=by simp[aRes,h,cutA]
theorem resA_at{b o s : Nat}{cs : List V}(h : H[b]?=some (.cells cs)) : aRes s true (.ptr b o) H K=(o+s≤cs.length∧K (V.agg ((cs.drop o).take s))):=by simp[aRes,h,cutA]
theorem ressetA{b o s : Nat}{cs : List V}(hb : b < H.length) : aRes s true (.ptr b o) (H.set b (.cells cs)) K=(o+s≤cs.length∧K (V.agg ((cs.drop o).take s))):=resA_at (List.getElem?_set_self hb)
theorem ret_ofE{P : Program}{f : Nat}{args : List V}{H : Hp}{Q : V→Hp→Prop}{v : V}{H0 : Hp}(h : RetE P f args H Q)(k : ∀ v' H',Q v' H'→v'=v∧H'=H0) : Ret P f args H v H0:=by
 refine⟨h.1,fun σ w ra hl hst hnd=>(h.2 σ w ra hl hst hnd).mono fun e w' hq=> ?_⟩
 obtain⟨v',H',hQ,hx⟩:=hq
 obtain⟨rfl,rfl⟩:=k _ _ hQ
 exact hx
theorem okE_nilP(a : Option Addr) : okE 1 (.imm (.pointer a))=True:=eq_true (okE_imm _ rfl)
theorem ck_nilP(a : Option Addr) : cellOk (.imm (.pointer a))=true:=rfl
theorem okE_nilI : okE 1 (.imm .nilIface)=True:=eq_true (okE_imm _ rfl)
theorem ck_nilI : cellOk (.imm .nilIface)=true:=rfl
theorem okE_str(s : ByteArray) : okE 1 (.imm (.string s))=True:=eq_true (okE_imm _ rfl)
theorem ck_str(s : ByteArray) : cellOk (.imm (.string s))=true:=rfl
theorem e_ldcP(b o : Nat)(H : Hp) : aLd 1 false false (.cptr (.ptr b o)) H KH=KH (.ptr b o) H:=rfl
theorem e_ldcS(b o n c s : Nat)(H : Hp) : aLd 1 false false (.cptr (.sl b o n c s)) H KH=KH (.sl b o n c s) H:=rfl
theorem e_ldcV(l : List V)(f : Fl)(H : Hp) : aLd 1 false false (.cptr (.arr l f)) H KH=KH (.arr l f) H:=rfl
theorem e_ldcT(t : Nat)(v : V)(H : Hp) : aLd 1 false false (.cptr (.ifc t v)) H KH=KH (.ifc t v) H:=rfl
theorem e_ncP(b o : Nat) : aNC (.ptr b o) K=K (.ptr b o):=rfl
theorem e_ncC(v : V) : aNC (.cptr v) K=K (.cptr v):=rfl
theorem e_ncI(t : Nat)(v : V) : aNC (.ifc t v) K=K (.ifc t v):=rfl
theorem e_npnP(t : TypeId)(b o : Nat) : aNilP (some (.pointer t)) .neq (.ptr b o) K=K (B true):=rfl
theorem e_npeP(t : TypeId)(b o : Nat) : aNilP (some (.pointer t)) .eql (.ptr b o) K=K (B false):=rfl
theorem e_npnC(t : TypeId)(v : V) : aNilP (some (.pointer t)) .neq (.cptr v) K=K (B true):=rfl
theorem e_npeC(t : TypeId)(v : V) : aNilP (some (.pointer t)) .eql (.cptr v) K=K (B false):=rfl
theorem e_npnN(t : TypeId) : aNilP (some (.pointer t)) .neq (.imm (.pointer none)) K=K (B false):=rfl
theorem e_npeN(t : TypeId) : aNilP (some (.pointer t)) .eql (.imm (.pointer none)) K=K (B true):=rfl
theorem e_ixAP(l s : Nat)(ag : Bool)(b o : Nat)(i : Int) : aIxA l s ag (.ptr b o) (I i) K=(0≤i∧i < l∧K (.ptr b (o+i.toNat*s))):=rfl
theorem ldI_at{b o : Nat}{l : List Int}(h : H[b]?=some (.cells (l.map I))) : aLd 1 false false (.ptr b o) H KH=(o < l.length∧KH (I (l.getD o 0)) H):=by
 rw[ld_at h]
 simp only[List.length_map]
 refine propext ⟨fun ⟨h1,h2⟩=>⟨h1,?_⟩,fun ⟨h1,h2⟩=>⟨h1,?_⟩⟩
 ·rw[getD_ints _ _ (by omega)]at h2;exact h2
 ·rw[getD_ints _ _ (by omega)];exact h2
theorem stI_at{b o : Nat}{x : Int}{l : List Int}(h : H[b]?=some (.cells (l.map I))) : aSt 1 (.ptr b o) (I x) H KH=(o < l.length∧KH .junk (H.set b (.cells ((l.set o x).map I)))):=by
 rw[st_at h]
 have ho : okE 1 (stV (I x))=True:=okE_I x
 simp only[List.length_map,ho,true_and]
 refine propext ⟨fun ⟨h1,h2⟩=>⟨h1,?_⟩,fun ⟨h1,h2⟩=>⟨h1,?_⟩⟩
 ·rw[show(stV (I x)).cl= [I x] from rfl,spl_one _ _ _ (by omega)]at h2;exact h2
 ·rw[show(stV (I x)).cl= [I x] from rfl,spl_one _ _ _ (by omega)];exact h2
def mpI(l : List (Int × V)) : Blk:= .mp (l.map fun p=>(I p.1,p.2))
theorem findE_int(k : Int) : ∀ (l : List (Int × V))(i : Nat),findE false [.int] (I k) (l.map fun p=>(I p.1,p.2)) i=some (match l.findIdx? (fun p=>p.1==k) with|some j=>some (i+j,(l.getD j (0,.junk)).2)|none=>none)
 | [],i=>rfl
 |p::l,i=>by
  simp only[List.map_cons,findE,kEq,lfE,if_true]
  rw[List.findIdx?_cons]
  by_cases h : p.1=k
  ·subst h;simp
  ·have : decide (k=p.1)=false:=decide_eq_false fun e=>h e.symm
   rw[this,if_neg (by simpa using h)]
   simp only
   rw[findE_int k l (i+1)]
   cases l.findIdx? (fun p=>p.1==k) with
   |none=>rfl
   |some j=>simp[Nat.add_assoc,Nat.add_comm 1 j]
theorem lkp_int{kt : TypeId}{z : V}{ok : Bool}{b : Nat}{k : Int}{l : List (Int × V)}(hl : lvT P 10000 kt=some [.int])(ha : agT P kt=false)(hb : H[b]?=some (mpI l))
    (h : match l.findIdx? (fun p=>p.1==k) with|some j=>K (bif ok then .tup [(l.getD j (0,.junk)).2,B true]else(l.getD j (0,.junk)).2)|none=>K (bif ok then .tup [z.nod,B false]else z.nod)) : aLkp P kt z ok (.map b) (I k) H K:=by
  unfold aLkp
  simp only[hb,mpI]
  refine⟨[.int],_,hl,by rw[ha];exact findE_int k l 0,by rw[ha];rfl,?_⟩
  split at h
  · rename_i j hj;simp only[hj];exact h
  · rename_i hj;simp only[hj];exact h
theorem upd_new{kt : TypeId}{b : Nat}{k : Int}{v : V}{l : List (Int × V)}(hl : lvT P 10000 kt=some [.int])(ha : agT P kt=false)(hb : H[b]?=some (mpI l))(hn : l.findIdx? (fun p=>p.1==k)=none)
    (h : KH .junk (H.set b (mpI (l++ [(k,v)])))) : aUpd P kt (.map b) (I k) v H KH:=by
  unfold aUpd
  simp only[hb,mpI]
  refine⟨[.int],none,hl,?_,by rw[ha];rfl,?_⟩
  · rw[ha,findE_int k l 0,hn]
  · simpa [mpI]using h
theorem jo_n{f : Nat}{args : List V}{b t : Bool}{rest : V→Hp→Prop}(h : Ret P f args H (B b) H)(k : rest (B (t|| !b)) H) : Jv rest (fun R=>bif t then R (B true) H else CallE P f args H fun v H'=>aUn .not v.nod fun v2=>R v2.nod H'):=by
 cases t
 ·exact CallE_of ⟨_,_,h,k⟩
 ·exact k
theorem jo_d{f : Nat}{args : List V}{b t : Bool}{rest : V→Hp→Prop}(h : Ret P f args H (B b) H)(k : rest (B (t||b)) H) : Jv rest (fun R=>bif t then R (B true) H else CallE P f args H fun v H'=>R v.nod H'):=by
 cases t
 ·exact CallE_of ⟨_,_,h,k⟩
 ·exact k
theorem joD_n{f : Nat}{args : List V}{b t : Bool}{rest : V→Hp→Prop}(h : Ret P f args H (B b) H)(k : rest (B (t|| !b)) H) : Jv rest (fun R=>bif t then R (B true) H else CallA P f args H fun v H'=>aUn .not v.nod fun v2=>R v2.nod H'):=by
 cases t
 ·exact⟨_,_,h,k⟩
 ·exact k
theorem fzI{n : Nat}{H : Hp}(x : Value) : Fz n H (.imm x) (.imm x):= .keep _ (.imm x)
theorem end1{H : Hp}{a a' : V}(h : Fz H.length H a a') : retF a' H [a] H:=⟨h,by simp⟩
theorem end1A{H : Hp}{a a' : V}{L : List Blk}(h : Fz H.length (H++L) a a') : retF a' H [a] (H++L):=⟨h,by simp⟩
theorem end_nil{n : Nat}{H : Hp}{f : Fl} : Fz n H (.arr [] f) (.arr [] .no):=end_anyA (.arr _ _ fun c hc=>by cases hc)
theorem end2{H : Hp}{a b a' b' : V}(d1 : a'.Nd)(d2 : b'.Nd)(h1 : Fz H.length H a.nod a')(h2 : Fz H.length H b.nod b') : retF (.tup [a',b']) H [a,b] H:=by
 refine⟨.tup _ _ rfl (fun c hc=> ?_) (fun i c c' h1' h2'=> ?_),by simp⟩
 ·simp at hc;rcases hc with rfl|rfl <;> assumption
 ·match i with
  |0=>simp at h1' h2';subst h1' h2';exact h1
  |1=>simp at h1' h2';subst h1' h2';exact h2
  |i+2=>simp at h2'
theorem e_addU(d : Option TypeDesc)(a b : Int) : aBin d .add (.imm (.int .u32 a)) (.imm (.int .u32 b)) K=K (.imm (.int .u32 (IntKind.u32.wrap (a+b)))):=by simp[aBin,aInt,aNum]
theorem e_mulU(d : Option TypeDesc)(a b : Int) : aBin d .mul (.imm (.int .u32 a)) (.imm (.int .u32 b)) K=K (.imm (.int .u32 (IntKind.u32.wrap (a*b)))):=by simp[aBin,aInt,aNum]
theorem e_shrK(d : Option TypeDesc)(k k' : IntKind)(a n : Int) : aBin d .shr (.imm (.int k a)) (.imm (.int k' n)) K=(0≤n∧K (.imm (.int k (a.fdiv (2 ^ (min n.toNat k.bits)))))):=rfl
theorem e_shlK(d : Option TypeDesc)(a n : Int)(k' : IntKind) : aBin d .shl (I a) (.imm (.int k' n)) K=(0≤n∧R64 (a*2 ^ (min n.toNat 64))∧K (I (a*2 ^ (min n.toNat 64)))):=rfl
theorem e_andK(d : Option TypeDesc)(k : IntKind)(a b : Int) : aBin d .and (.imm (.int k a)) (.imm (.int k b)) K=K (.imm (.int k (bitsV .and k a b))):=by simp[aBin,aInt]
theorem e_cv64(k : IntKind)(n : Int) : aCv (some (.int .i64)) (.imm (.int k n)) K=(R64 n∧K (I n)):=rfl
theorem e_cv32(k : IntKind)(n : Int) : aCv (some (.int .u32)) (.imm (.int k n)) K=K (.imm (.int .u32 (IntKind.u32.wrap n))):=rfl
theorem wrap32(n : Int) : 0≤IntKind.u32.wrap n∧IntKind.u32.wrap n≤4294967295:=by
 have : IntKind.u32.wrap n=n % 4294967296:=rfl
 rw[this];omega
theorem fdiv16(n : Int)(h : 0≤n)(h2 : n≤4294967295) : 0≤n.fdiv (2 ^ (min (16 : Int).toNat IntKind.u32.bits))∧n.fdiv (2 ^ (min (16 : Int).toNat IntKind.u32.bits))≤65535:=by
 have e : n.fdiv (2 ^ (min (16 : Int).toNat IntKind.u32.bits))=n / 65536:=by
  rw[Int.fdiv_eq_ediv_of_nonneg n (by decide)];rfl
 rw[e];omega
theorem end_anyN{n : Nat}{H : Hp}{l : List Int}{f : Fl} : Fz n H (ints l f).nod (ints l .no):=by rw[nod_ints];exact end_any
theorem end_anyAN{n : Nat}{H : Hp}{l : List V}{f : Fl}(hb : Bel n (.arr l .no)) : Fz n H (V.arr l f).nod (.arr l .no):=by rw[nod_arr];exact end_anyA hb
theorem endW{Q : V→Hp→Prop}{vs : List V}{H : Hp}(h : Q (oneV vs).nod H) : retW Q vs H:=h
class Hd (p : Prop)(q : outParam Prop) : Prop where
 go : q→p
instance {a} {b} {c} {K0} : Hd (aNilS a b c K0) (∀ K,∀ Q : Prop,K=K0→Q=True→aNilS a b c K):=⟨fun h=>hd_NilS h⟩
instance {a} {b} {c} {K0} : Hd (aNilP a b c K0) (∀ K,∀ Q : Prop,K=K0→Q=True→aNilP a b c K):=⟨fun h=>hd_NilP h⟩
instance {a} {b} {c} {d} {K0} : Hd (aBin a b c d K0) (∀ K,∀ Q : Prop,K=K0→Q=True→aBin a b c d K):=⟨fun h=>hd_Bin h⟩
instance {a} {b} {K0} : Hd (aUn a b K0) (∀ K,∀ Q : Prop,K=K0→Q=True→aUn a b K):=⟨fun h=>hd_Un h⟩
instance {a} {b} {K0} : Hd (aExt a b K0) (∀ K,∀ Q : Prop,K=K0→Q=True→aExt a b K):=⟨fun h=>hd_Ext h⟩
instance {a} {b} {c} {d} {K0} : Hd (aBx a b c d K0) (∀ K,∀ Q : Prop,K=K0→Q=True→aBx a b c d K):=⟨fun h=>hd_Bx h⟩
instance {a} {b} {c} {d} {K0} : Hd (aFA a b c d K0) (∀ K,∀ Q : Prop,K=K0→Q=True→aFA a b c d K):=⟨fun h=>hd_FA h⟩
instance {a} {b} {c} {d} {e} {K0} : Hd (aLd a b c d e K0) (∀ K,∀ Q : Prop,K=K0→Q=True→aLd a b c d e K):=⟨fun h=>hd_Ld h⟩
instance {a} {b} {c} {d} {K0} : Hd (aSt a b c d K0) (∀ K,∀ Q : Prop,K=K0→Q=True→aSt a b c d K):=⟨fun h=>hd_St h⟩
instance {a} {b} {c} {K0} : Hd (aIx a b c K0) (∀ K,∀ Q : Prop,K=K0→Q=True→aIx a b c K):=⟨fun h=>hd_Ix h⟩
instance {a} {b} {c} {d} {e} {K0} : Hd (aIxA a b c d e K0) (∀ K,∀ Q : Prop,K=K0→Q=True→aIxA a b c d e K):=⟨fun h=>hd_IxA h⟩
instance {a} {b} {c} {d} {e} {K0} : Hd (aSlc a b c d e K0) (∀ K,∀ Q : Prop,K=K0→Q=True→aSlc a b c d e K):=⟨fun h=>hd_Slc h⟩
instance {a} {b} {c} {d} {e} {f} {K0} : Hd (aMk a b c d e f K0) (∀ K,∀ Q : Prop,K=K0→Q=True→aMk a b c d e f K):=⟨fun h=>hd_Mk h⟩
instance {a} {b} {c} {d} {K0} : Hd (aBS a b c d K0) (∀ K,∀ Q : Prop,K=K0→Q=True→aBS a b c d K):=⟨fun h=>hd_BS h⟩
instance {a} {b} {K0} : Hd (aBd a b K0) (∀ K,∀ Q : Prop,K=K0→Q=True→aBd a b K):=⟨fun h=>hd_Bd h⟩
instance {a} {K0} : Hd (aNC a K0) (∀ K,∀ Q : Prop,K=K0→Q=True→aNC a K):=⟨fun h=>hd_NC h⟩
instance {a} {b} {K0} : Hd (aCv a b K0) (∀ K,∀ Q : Prop,K=K0→Q=True→aCv a b K):=⟨fun h=>hd_Cv h⟩
instance {a} {K0} : Hd (aLen a K0) (∀ K,∀ Q : Prop,K=K0→Q=True→aLen a K):=⟨fun h=>hd_Len h⟩
instance {a} {K0} : Hd (aLenT a K0) (∀ K,∀ Q : Prop,K=K0→Q=True→aLenT a K):=⟨fun h=>hd_LenT h⟩
instance {a} {b} {c} {d} {K0} : Hd (aApp a b c d K0) (∀ K,∀ Q : Prop,K=K0→Q=True→aApp a b c d K):=⟨fun h=>hd_App h⟩
instance {a} {b} {c} {d} {e} {K0} : Hd (aAppB a b c d e K0) (∀ K,∀ Q : Prop,K=K0→Q=True→aAppB a b c d e K):=⟨fun h=>hd_AppB h⟩
instance {a} {b} {c} {d} {K0} : Hd (aCpy a b c d K0) (∀ K,∀ Q : Prop,K=K0→Q=True→aCpy a b c d K):=⟨fun h=>hd_Cpy h⟩
instance {a} {b} {K0} : Hd (aMM a b K0) (∀ K,∀ Q : Prop,K=K0→Q=True→aMM a b K):=⟨fun h=>hd_MM h⟩
instance {a} {b} {c} {d} {K0} : Hd (aRes a b c d K0) (∀ K,∀ Q : Prop,K=K0→Q=True→aRes a b c d K):=⟨fun h=>hd_Res h⟩
instance {a} {b} {c} {K0} : Hd (aPick a b c K0) (∀ K,∀ Q : Prop,K=K0→Q=True→aPick a b c K):=⟨fun h=>hd_Pick h⟩
instance {a} {b} {c} {d} {K0} : Hd (aCallG a b c d K0) (∀ K,∀ Q : Prop,K=K0→Q=True→aCallG a b c d K):=⟨fun h=>hd_CallG h⟩
instance {a}{K0 Q0 : Prop} : Hd (aCond a K0 Q0) (∀ K Q : Prop,K=K0→Q=Q0→aCond a K Q):=⟨fun h=>hd_Cond h⟩
instance {a b}{K0 Q0 : Prop} : Hd (aG a b K0 Q0) (∀ K Q : Prop,K=K0→Q=Q0→aG a b K Q):=⟨fun h=>hd_G h⟩
instance {p : Prop} [Decidable p] {K0 Q0 : Prop} : Hd (if p then K0 else Q0) (∀ K Q : Prop,K=K0→Q=Q0→if p then K else Q):=⟨fun h=>hd_If h⟩
instance {p : Bool}{K0 Q0 : Prop} : Hd (bif p then K0 else Q0) (∀ K Q : Prop,K=K0→Q=Q0→bif p then K else Q):=⟨fun h=>hd_Cd h⟩
instance {n : Nat}{v : V}{K0 : Prop} : Hd (okE n v∧K0) (∀ K Q : Prop,K=K0→Q=True→okE n v∧K):=⟨fun h=>hd_Ok h⟩
instance {l H} {K0} : Hd (Rn K0 l H) (∀ K,∀ Q : Prop,K=K0→Q=True→Rn K l H):=⟨fun h=>hd_Rn h⟩
instance {l H} {K0} : Hd (Rv K0 l H) (∀ K,∀ Q : Prop,K=K0→Q=True→Rv K l H):=⟨fun h=>hd_Rv h⟩
instance {body : (V→Hp→Prop)→Prop} {K0} : Hd (Jv K0 body) (∀ K,∀ Q : Prop,K=K0→Q=True→Jv K body):=⟨fun h=>hd_Jv h⟩
instance {P f a H} {K0} : Hd (CallA P f a H K0) (∀ K,∀ Q : Prop,K=K0→Q=True→CallA P f a H K):=⟨fun h=>hd_CallA h⟩
instance {P f a H} {K0} : Hd (CallE P f a H K0) (∀ K,∀ Q : Prop,K=K0→Q=True→CallE P f a H K):=⟨fun h=>hd_CallE h⟩
instance {a b c d} {K0} : Hd (aCallEG a b c d K0) (∀ K,∀ Q : Prop,K=K0→Q=True→aCallEG a b c d K):=⟨fun h=>hd_CallEG h⟩
instance {P f a H} {K0} : Hd (CalmA P f a H K0) (∀ K,∀ Q : Prop,K=K0→Q=True→CalmA P f a H K):=⟨fun h=>hd_CalmA h⟩
instance {a b c d} {K0} : Hd (aEqS P a b c d K0) (∀ K,∀ Q : Prop,K=K0→Q=True→aEqS P a b c d K):=⟨fun h=>hd_EqS h⟩
instance {a b c d} {K0} : Hd (aEqP a b c d K0) (∀ K,∀ Q : Prop,K=K0→Q=True→aEqP a b c d K):=⟨fun h=>hd_EqP h⟩
instance {a b c d} {K0} : Hd (aFd a b c d K0) (∀ K,∀ Q : Prop,K=K0→Q=True→aFd a b c d K):=⟨fun h=>hd_Fd h⟩
instance {a b} {K0} : Hd (aIxT a b K0) (∀ K,∀ Q : Prop,K=K0→Q=True→aIxT a b K):=⟨fun h=>hd_IxT h⟩
instance {a b c} {K0} : Hd (aTA a b c K0) (∀ K,∀ Q : Prop,K=K0→Q=True→aTA a b c K):=⟨fun h=>hd_TA h⟩
instance {a b c d e f} {K0} : Hd (aLkp P a b c d e f K0) (∀ K,∀ Q : Prop,K=K0→Q=True→aLkp P a b c d e f K):=⟨fun h=>hd_Lkp h⟩
instance {a b c d e} {K0} : Hd (aUpd P a b c d e K0) (∀ K,∀ Q : Prop,K=K0→Q=True→aUpd P a b c d e K):=⟨fun h=>hd_Upd h⟩
instance {a} {K0} : Hd (aMkM a K0) (∀ K,∀ Q : Prop,K=K0→Q=True→aMkM a K):=⟨fun h=>hd_MkM h⟩
instance {a b c} {K0} : Hd (aZr a b c K0) (∀ K,∀ Q : Prop,K=K0→Q=True→aZr a b c K):=⟨fun h=>hd_Zr h⟩
instance {a b c d e} {K0} : Hd (aAppS a b c d e K0) (∀ K,∀ Q : Prop,K=K0→Q=True→aAppS a b c d e K):=⟨fun h=>hd_AppS h⟩
instance {a b c d} {K0} : Hd (aInvE P a b c d K0) (∀ K,∀ Q : Prop,K=K0→Q=True→aInvE P a b c d K):=⟨fun h=>hd_InvE h⟩
instance {a b c d} {K0} : Hd (aInv P a b c d K0) (∀ K,∀ Q : Prop,K=K0→Q=True→aInv P a b c d K):=⟨fun h=>hd_Inv h⟩
theorem sd{a b : Prop}(hb : b)(ha : a:=by first|(unfold R64;omega)|omega|assumption|(intros;first|(unfold R64;omega)|omega)|(simp only[List.length_append,List.length_cons,List.length_nil,List.length_map,List.length_range];omega)) : a∧b:=⟨ha,hb⟩
end
end Go.Ab
namespace Go.Ab
class Ju (a : Prop)(b : outParam Prop) : Prop where
 go : b→a
class Jr (a : Prop)(b : outParam Prop) : Prop where
 go : b→a
instance {rest : List V→Hp→Prop}{body : (List V→Hp→Prop)→Prop} : Ju (Jn rest body) (body (Rn rest)):=⟨jn_go⟩
instance {x : V}{K : Prop} : Ju (x=x∧K) K:=⟨ud_go⟩
instance {K : Prop} : Ju (True∧K) K:=⟨tr_go⟩
instance {rest : List V→Hp→Prop}{l : List V}{H : Hp} : Jr (Rn rest l H) (rest l H):=⟨rn_go⟩
instance {rest : V→Hp→Prop}{l : V}{H : Hp} : Jr (Rv rest l H) (rest l H):=⟨rv_go⟩
instance {rest : V→Hp→Prop}{body : (V→Hp→Prop)→Prop} : Jr (Jv rest body) (body (Rv rest)):=⟨jv_go⟩
end Go.Ab
namespace Go.Ab
set_option linter.defProp false
def kc0:=And.intro @List.getD_cons_zero.{0} (And.intro @List.getD_cons_succ.{0} (And.intro @List.length_nil.{0} (And.intro @Nat.zero_add (And.intro @nod_imm (And.intro @true_and (And.intro @lv_cons (And.intro @Bool.false_eq_true (And.intro @nod_ptr (And.intro @List.map_cons.{0,0} (And.intro @List.map_nil.{0,0} (And.intro @e_cond (And.intro @if_false.{1} (And.intro @nod_cptr (And.intro @if_true.{1} (And.intro @nodL_imm (And.intro @Bool.not_true (And.intro @Int.toNat_natCast (And.intro @decide_true (And.intro @nd_no (And.intro @nod_agg (And.intro @Bool.and_self (And.intro @e_fa (And.intro @decide_eq_true_eq (And.intro @e_ncP (And.intro @nod_arr (And.intro @e_fac (And.intro @nod_ints (And.intro @decide_false (And.intro @Nat.add_zero (And.intro @Bool.not_false (And.intro @e_ldc (And.intro @j_one (And.intro @cond_true.{1} (And.intro @spl_0 (And.intro @spl_n (And.intro @e_lss (And.intro @and_true (And.intro @e_not (And.intro @nodL_arr (And.intro @okE_agg (And.intro @e_add (And.intro @nodL_ints (And.intro @cond_false.{1} (And.intro @spl_s (And.intro @nd_full (And.intro @e_gF (And.intro @e_eql (And.intro @cl_imm (And.intro @e_gT (And.intro @all_c (And.intro @all_n (And.intro @e_ldcA (And.intro @e_gtr (And.intro @okE_I (And.intro @e_ldci (And.intro @nod_nod (And.intro @ck_I (And.intro @e_ldcP (And.intro @e_len (And.intro @cl_agg (And.intro @e_sub (And.intro @e_lenA (And.intro @e_bd0 (And.intro @ck_arr (And.intro @stV_imm (And.intro @e_bxI (And.intro @e_bd1 (And.intro @nod_tup (And.intro @e_ldcV (And.intro @dr_0 (And.intro @tk_s (And.intro @tk_0 (@e_leq)))))))))))))))))))))))))))))))))))))))))))))))))))))))))))))))))))))))))
theorem kc : type_of% kc0:=kc0
def Wf(an : An)(f : Func)(n : Nat) : Bool:=Nat.ble n f.ntmps && wfC an f.ntmps (f.body.getD .skip)
def wpF(P : Program)(C : Cb)(an : An)(f : Func)(l : List V)(H : Hp)(R : List V→Hp→Prop) : Prop:=wpG P C an (f.body.getD .skip) (argF l) H (retG P C f R) (fun _ _ _=>False) (retG P C f R)
abbrev Hb (H H1 : Hp) : Prop:=H1=H∨∀ (b : Nat)(blk : Blk),H1[b]?=some blk→H[b]?=some blk∨BelB H1.length blk
end Go.Ab
