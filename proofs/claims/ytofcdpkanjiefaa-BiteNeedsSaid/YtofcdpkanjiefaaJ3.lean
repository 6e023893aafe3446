/- Texts of this proof, joined (PxW, PxS, PxY, PxZ, PxT, PxKy, PxTi, PxX, PxXa, PxXb, PxXc, PxXd, PxXe, PxXf, PxFr): a small program logic over the model, and what functions of the program give. No statement of the seat is proved here. -/
import Derived.Test.YtofcdpkanjiefaaJ2
import Derived.RangeFuncRecord
import Derived.Test.YtofcdpkanjiefaaJ1
import Derived.ChangeKeysEq
import Derived.WideKeyRuns
import Derived.OpenShut
import Derived.ChangeOld
import Derived.Below
import Derived.ProofKit
set_option linter.unusedVariables false
set_option linter.unusedSimpArgs false

/-! PxW -/
noncomputable section
namespace Go.Px
open Go Go.RowKit
def tmpsOf : List Operand → List Nat
  | [] => []
  | .tmp t :: l => t :: tmpsOf l
  | _ :: l => tmpsOf l
def gdst (ol : List Oper) (o : Oper) : List Nat := match o.guard with
  | some (j, _) => match ol[j]? with
    | some oj => oj.dst.toList
    | none => []
  | none => []
def memN (i : Nat) : List Nat → Bool
  | [] => false
  | j :: l => Nat.beq i j || memN i l
def disj : List Nat → List Nat → Bool
  | [], _ => true
  | i :: l, m => !memN i m && disj l m
def noD (d : Option Nat) (l : List Nat) : Bool := match d with
  | some d => !memN d l
  | none => true
def apartB (ol : List Oper) (a b : Oper) : Bool := noD a.dst (tmpsOf b.op.operands.toList) && noD a.dst (gdst ol b) && noD b.dst (tmpsOf a.op.operands.toList) && noD b.dst (gdst ol a) && noD a.dst b.dst.toList
def directB (o : Oper) (j : Nat) : Bool := o.after.toList.any fun e => Nat.beq e.on j && Region.binds .any e
def depB (ol : List Oper) : Nat → Nat → Nat → Bool
  | 0, _, _ => false
  | n + 1, i, j => match ol[i]? with
    | some o => o.after.toList.any fun e => Region.binds .any e && (Nat.beq e.on j || (Nat.blt j e.on && depB ol n e.on j))
    | none => false
def downB (o : Oper) (i : Nat) : Bool := o.after.toList.all fun e => !Region.binds .any e || Nat.blt e.on i
/-- A look at a map, and the entry of a key: in either order they give the same. -/
def lkB (a b : Oper) : Bool := match a.op, b.op with
  | .lookup _ _ _ false, .mapEntry .. => true
  | .mapEntry .., .lookup _ _ _ false => true
  | _, _ => false
def pr (ol : List Oper) (e : Tr) (i : Nat) (o : Oper) (rd wr : List Nat) : Bool :=
  directB o e.i || (apartB ol e.o o && disj e.wr (rd ++ wr) && disj wr (e.rd ++ e.wr)) || depB ol 20 i e.i || (apartB ol e.o o && lkB e.o o)
def chkC (ops : Array Oper) : Chk := ⟨fpV, fun i o rd wr tr => downB o i && tr.all fun e => pr ops.toList e i o rd wr⟩
theorem memN_iff {i : Nat} : ∀ {l : List Nat}, memN i l = true ↔ i ∈ l
  | [] => by simp [memN]
  | j :: l => by
    simp only [memN, Bool.or_eq_true, List.mem_cons, memN_iff (l := l)]
    exact ⟨fun h => h.imp Nat.eq_of_beq_eq_true id, fun h => h.imp (fun e => by rw [e]; exact Nat.beq_refl j) id⟩
theorem memN_false {i : Nat} {l : List Nat} : (!memN i l) = true ↔ i ∉ l := by
  rw [Bool.not_eq_true', ← Bool.not_eq_true, memN_iff]
theorem disj_iff : ∀ {l m : List Nat}, disj l m = true ↔ ∀ i, i ∈ l → i ∉ m
  | [], m => by simp [disj]
  | i :: l, m => by simp [disj, Bool.and_eq_true, disj_iff (l := l), memN_false, ← memN_iff]
theorem noD_iff {d : Option Nat} {l : List Nat} : noD d l = true ↔ ∀ i, d = some i → i ∉ l := by
  unfold noD
  cases d with
  | none => simp
  | some d => simp only [memN_false, Option.some.injEq, forall_eq']
theorem mem_tmps {t : Nat} : ∀ {l : List Operand}, Operand.tmp t ∈ l → t ∈ tmpsOf l
  | x :: l, h => by
    rcases List.mem_cons.1 h with e | h
    · subst e; exact List.mem_cons_self ..
    · have := mem_tmps h
      cases x <;> simp [tmpsOf, this]
inductive Rch (ops : Array Oper) : Nat → Nat → Prop
  | one {i : Nat} {o : Oper} {e : Go.Edge} : ops[i]? = some o → e ∈ o.after → Region.binds .any e = true → Rch ops i e.on
  | step {i j : Nat} {o : Oper} {e : Go.Edge} : ops[i]? = some o → e ∈ o.after → Region.binds .any e = true → Rch ops e.on j → Rch ops i j
theorem directB_rch {ops : Array Oper} {i j : Nat} {o : Oper} (hi : ops[i]? = some o) (h : directB o j = true) : Rch ops i j := by
  unfold directB at h
  simp only [List.any_eq_true, Bool.and_eq_true] at h
  obtain ⟨e, he, h1, h2⟩ := h
  obtain rfl := Nat.eq_of_beq_eq_true h1
  exact .one hi (Array.mem_toList_iff.1 he) h2
theorem depB_rch {ops : Array Oper} : ∀ {n i j : Nat}, depB ops.toList n i j = true → Rch ops i j
  | n + 1, i, j, h => by
    unfold depB at h
    split at h
    · rename_i o ho
      rw [Array.getElem?_toList] at ho
      simp only [List.any_eq_true, Bool.and_eq_true, Bool.or_eq_true] at h
      obtain ⟨e, he, h1, h2⟩ := h
      rcases h2 with h2 | h2
      · obtain rfl := Nat.eq_of_beq_eq_true h2
        exact .one ho (Array.mem_toList_iff.1 he) h1
      · exact .step ho (Array.mem_toList_iff.1 he) h1 (depB_rch h2.2)
    · cases h
section
variable {P : Program} {T : Nat → Option TI} {ol : List Oper} {base : Nat}
theorem put_tm (st : St) (d : Option Nat) (x : AV) (t : Nat) : (st.put d x).tm t = if d = some t then x else st.tm t := by
  cases d with
  | none => simp [St.put]
  | some d =>
    show (bif Nat.beq t d then x else st.tm t) = _
    by_cases e : d = t
    · subst e; simp [Nat.beq_refl]
    · rw [beq_ne (fun h => e h.symm), if_neg (fun h => e (Option.some.inj h))]; rfl
theorem put_hp (st : St) (d : Option Nat) (x : AV) : (st.put d x).hp = st.hp := by cases d <;> rfl
theorem put_gh (st : St) (d : Option Nat) (x : AV) : (st.put d x).gh = st.gh := by cases d <;> rfl
theorem put_n (st : St) (d : Option Nat) (x : AV) : (st.put d x).n = st.n := by cases d <;> rfl
theorem ev_congr {st st2 : St} (hn : st2.n = st.n) {l : List Operand} (ht : ∀ t, t ∈ tmpsOf l → st2.tm t = st.tm t) : ∀ y, y ∈ l → st2.ev y = st.ev y := by
  intro y hy
  cases y with
  | tmp t => simp only [St.ev, hn, ht t (mem_tmps hy)]
  | _ => rfl
theorem wanted_congr {st st2 : St} (hn : st2.n = st.n) {o : Oper} (ht : ∀ t, t ∈ gdst ol o → st2.tm t = st.tm t) : wantedV ol o st2 = wantedV ol o st := by
  unfold wantedV
  unfold gdst at ht
  cases hg : o.guard with
  | none => rfl
  | some p =>
    obtain ⟨j, w⟩ := p
    simp only [hg] at ht ⊢
    cases hj : ol[j]? with
    | none => rfl
    | some oj =>
      simp only [hj] at ht ⊢
      cases hd : oj.dst with
      | none => rfl
      | some d =>
        simp only [hd] at ht ⊢
        rw [hn, ht d (by simp)]
theorem One.local {i : Nat} {o : Oper} {st st2 : St} {r : CR} {s : St} (h : One P T ol base i o st r s) (hn : st2.n = st.n) (hg : ∀ t, t ∈ gdst ol o → st2.tm t = st.tm t) (he : ∀ t, t ∈ tmpsOf o.op.operands.toList → st2.tm t = st.tm t)
    (ha : ∀ id, id ∈ (fpV o (base + i) st r).1 ++ (fpV o (base + i) st r).2 → st2.hp id = st.hp id) :
    ∃ x s0 s02, s = s0.put o.dst x ∧ One P T ol base i o st2 r (s02.put o.dst x) ∧ Lo (fpV o (base + i) st r).2 st st2 s0 s02 ∧ fpV o (base + i) st2 r = fpV o (base + i) st r := by
  have hev : ∀ y, y ∈ o.op.operands → st2.ev y = st.ev y := fun y hy => ev_congr hn he y (Array.mem_toList_iff.2 hy)
  have hfp := fp_local (i := base + i) (r := r) hev ha
  cases h with
  | skip hw => exact ⟨_, st, st2, rfl, .skip ((wanted_congr hn hg).trans hw), Lo.refl fun id hid => ha id (List.mem_append_right _ hid), hfp⟩
  | run _ c x s0 hw hs hc hb =>
    obtain ⟨s02, h1, h2⟩ := step_local hs hev ha
    exact ⟨x, s0, s02, rfl, .run r c x s02 ((wanted_congr hn hg).trans hw) h1 hc hb, h2, hfp⟩
theorem chk_some {C : Chk} {i : Nat} {o : Oper} {st : St} {r : CR} {tr tr' : List Tr} : chk (some C) base i o st r tr (· = tr') ↔ C.ok i o (C.fp o (base + i) st r).1 (C.fp o (base + i) st r).2 tr = true ∧ tr' = ⟨i, o, (C.fp o (base + i) st r).1, (C.fp o (base + i) st r).2⟩ :: tr := by
  unfold chk
  simp only
  split
  · rename_i h; simp only [h, true_and]; exact ⟨fun e => e.symm, fun e => e.symm⟩
  · rename_i h; simp [h]
variable {ops : Array Oper}
theorem ok_iff {i : Nat} {o : Oper} {rd wr : List Nat} {tr : List Tr} : (chkC ops).ok i o rd wr tr = true ↔ downB o i = true ∧ ∀ e, e ∈ tr → pr ops.toList e i o rd wr = true := by
  show (downB o i && tr.all fun e => pr ops.toList e i o rd wr) = true ↔ _
  rw [Bool.and_eq_true, List.all_eq_true]
theorem Run.perm : ∀ {l : List (Nat × Oper)} {tr tr' : List Tr} {st st' : St}, (∀ e, e ∈ tr' → e ∈ tr) → Run P T (some (chkC ops)) ol base l tr st st' → Run P T (some (chkC ops)) ol base l tr' st st'
  | [], tr, tr', st, st', _, h => by cases h; exact .nil _ _
  | (i, o) :: l, tr, tr', st, st', hp, h => by
    cases h with
    | cons _ _ _ _ _ r s _ tr1 h1 h2 h3 =>
      obtain ⟨h4, rfl⟩ := chk_some.1 h2
      refine .cons _ _ _ _ _ r s _ _ h1 (chk_some.2 ⟨?_, rfl⟩) (Run.perm ?_ h3)
      · rw [ok_iff] at h4 ⊢
        exact ⟨h4.1, fun e he => h4.2 e (hp e he)⟩
      · intro e he
        rcases List.mem_cons.1 he with e1 | he
        · exact e1 ▸ List.mem_cons_self ..
        · exact List.mem_cons_of_mem _ (hp e he)
theorem St.ext' {s s' : St} (h1 : s.n = s'.n) (h2 : s.next = s'.next) (h5 : s.gh = s'.gh) (h3 : ∀ t, s.tm t = s'.tm t) (h4 : ∀ id, s.hp id = s'.hp id) : s = s' := by
  cases s; cases s'
  simp only [St.mk.injEq]
  exact ⟨h1, h2, funext h3, funext h4, h5⟩
/-- Memories that a look at a map cannot tell apart. -/
def Hpl (hp hp2 : Nat → Option Res) : Prop := ∀ id, hp2 id = hp id ∨ ∃ kt f l g, hp id = some (.mp true kt f) ∧ hp2 id = some (.me true kt f l g)
theorem lkOf_hpl {st st2 : St} (h : Hpl st.hp st2.hp) (m : AV) : lkOf st2 false m = lkOf st false m := by
  unfold lkOf
  split
  · rename_i id
    rcases h id with e | ⟨kt, f, l, g, e1, e2⟩
    · rw [e]
    · rw [e1, e2]
  · rfl
  · rfl
theorem lookV_st {t : Nat} {m k : AV} {co : Bool} {st : St} {c : Prop} {x : AV} {s : St} (h : lookV T t m k co st = some (c, x, s)) : s = st := by
  unfold lookV at h
  split at h
  · split at h
    · revert h
      cases ktEq _ _ with
      | false => intro h; cases h
      | true => intro h; cases h; rfl
    · cases h
  · cases h
theorem look_one {i : Nat} {o : Oper} {st st2 : St} {r : CR} {s : St} {t : Nat} {m k : Operand} (h : One P T ol base i o st r s) (ho : o.op = .lookup t m k false) (hn : st2.n = st.n) (hg : ∀ t, t ∈ gdst ol o → st2.tm t = st.tm t)
    (he : ∀ t, t ∈ tmpsOf o.op.operands.toList → st2.tm t = st.tm t) (hl : ∀ y, lkOf st2 false y = lkOf st false y) : ∃ x, s = st.put o.dst x ∧ One P T ol base i o st2 r (st2.put o.dst x) := by
  have hev : ∀ y, y ∈ o.op.operands → st2.ev y = st.ev y := fun y hy => ev_congr hn he y (Array.mem_toList_iff.2 hy)
  cases h with
  | skip hw => exact ⟨_, rfl, .skip ((wanted_congr hn hg).trans hw)⟩
  | run _ c x s0 hw hs hc hb =>
    have e1 : st2.ev m = st.ev m := hev m (by rw [ho]; simp [Op.operands])
    have e2 : st2.ev k = st.ev k := hev k (by rw [ho]; simp [Op.operands])
    have hs1 : lookV T t (st.ev m) (st.ev k) false st = some (c, x, s0) := by rw [ho] at hs; exact hs
    have e3 := lookV_st hs1
    subst e3
    refine ⟨x, rfl, .run r c x st2 ((wanted_congr hn hg).trans hw) ?_ hc hb⟩
    rw [ho]
    show lookV T t (st2.ev m) (st2.ev k) false st2 = some (c, x, st2)
    rw [e1, e2]
    unfold lookV at hs1 ⊢
    rw [hl]
    revert hs1
    split
    · split
      · cases ktEq _ _ with
        | false => intro h; cases h
        | true => simp only [cond_true]; intro h; cases h; rfl
      · intro h; cases h
    · intro h; cases h
theorem ment_one {i : Nat} {o : Oper} {st : St} {r : CR} {s : St} {t : Nat} {m k : Operand} (h : One P T ol base i o st r s) (ho : o.op = .mapEntry t m k) : Hpl st.hp s.hp := by
  cases h with
  | skip hw => exact fun id => .inl (by rw [put_hp])
  | run _ c x s0 hw hs hc hb =>
    have hs1 : mentV T (base + i) t (st.ev m) (st.ev k) st = some (c, x, s0) := by rw [ho] at hs; exact hs
    unfold mentV at hs1
    split at hs1
    · rename_i kt id h1 h2
      split at hs1
      · rename_i kt' f l hid hl
        revert hs1
        cases ktEq _ _ with
        | false => intro h; cases h
        | true =>
          simp only [cond_true]
          intro h; cases h
          intro j
          rw [put_hp]
          by_cases e : j = id
          · subst e; exact .inr ⟨kt', f, l, base + i, hid, set_hp_self _ _ _⟩
          · exact .inl (set_hp_other _ _ e)
      · cases hs1
    · cases hs1
theorem swap_lk {i j : Nat} {oi oj : Oper} {st s1 s2 : St} {r1 r2 : CR} (hj : One P T ol base j oj st r1 s1) (hi : One P T ol base i oi s1 r2 s2) (hlk : lkB oj oi = true) (hap : apartB ol oj oi = true) :
    ∃ s3, One P T ol base i oi st r2 s3 ∧ One P T ol base j oj s3 r1 s2 ∧ fpV oi (base + i) st r2 = fpV oi (base + i) s1 r2 ∧ fpV oj (base + j) s3 r1 = fpV oj (base + j) st r1 := by
  simp only [apartB, Bool.and_eq_true, noD_iff] at hap
  obtain ⟨⟨⟨⟨a1, a2⟩, a3⟩, a4⟩, a5⟩ := hap
  have a5' : ∀ t, oj.dst = some t → oi.dst ≠ some t := fun t h1 h2 => a5 t h1 (by rw [h2]; simp)
  unfold lkB at hlk
  split at hlk
  · rename_i tj mj kj ti mi ki hoj hoi
    obtain ⟨x, e1, _⟩ := look_one (st2 := st) hj hoj rfl (fun _ _ => rfl) (fun _ _ => rfl) (fun _ => rfl)
    have q1 : ∀ t, t ∈ tmpsOf oi.op.operands.toList → st.tm t = s1.tm t := fun t ht => by rw [e1, put_tm, if_neg (fun e => a1 t e ht)]
    have q2 : ∀ t, t ∈ gdst ol oi → st.tm t = s1.tm t := fun t ht => by rw [e1, put_tm, if_neg (fun e => a2 t e ht)]
    obtain ⟨xi, si, si2, e2, hi2, loi, fpi⟩ := One.local (st2 := st) hi (by rw [e1, put_n]) q2 q1 (fun id _ => by rw [e1, put_hp])
    have hh := ment_one hi2 hoi
    have t2 : ∀ t, (si2.put oi.dst xi).tm t = if oi.dst = some t then xi else st.tm t := fun t => by rw [put_tm, loi.t2.1]
    obtain ⟨x', e3, hj2⟩ := look_one (st2 := si2.put oi.dst xi) hj hoj (by rw [put_n]; exact loi.t2.2.1) (fun t ht => by rw [t2, if_neg (fun e => a4 t e ht)]) (fun t ht => by rw [t2, if_neg (fun e => a3 t e ht)]) (fun y => lkOf_hpl hh y)
    refine ⟨_, hi2, ?_, fpi, ?_⟩
    · have : s2 = (si2.put oi.dst xi).put oj.dst x' := by
        rw [e2]
        refine St.ext' ?_ ?_ ?_ (fun t => ?_) (fun id => ?_)
        · rw [put_n, put_n, put_n, loi.t.2.1, loi.t2.2.1, e3, put_n]
        · rw [St.put_next, St.put_next, St.put_next, loi.t.2.2.1, loi.t2.2.2.1, e3, St.put_next]
        · rw [put_gh, put_gh, put_gh, loi.t.2.2.2, loi.t2.2.2.2, e3, put_gh]
        · simp only [put_tm]
          rw [loi.t.1, loi.t2.1, e3, put_tm]
          by_cases h1 : oj.dst = some t
          · rw [if_pos h1, if_neg (a5' t h1), if_pos h1]
          · rw [if_neg h1, if_neg h1]
        · rw [put_hp, put_hp, put_hp]
          by_cases hw : id ∈ (fpV oi (base + i) s1 r2).2
          · exact (loi.a id hw).symm
          · rw [loi.b id hw, loi.c id hw, e3, put_hp]
      rw [this]; exact hj2
    · have : (si2.put oi.dst xi).ev mj = st.ev mj := ev_congr (l := oj.op.operands.toList) (by rw [put_n]; exact loi.t2.2.1) (fun t ht => by rw [t2, if_neg (fun e => a3 t e ht)]) mj (by rw [hoj]; simp [Op.operands])
      unfold fpV
      rw [hoj]
      simp only [this]
  · rename_i tj mj kj ti mi ki hoj hoi
    have hh := ment_one hj hoj
    obtain ⟨xj, sj, sj2, e1, hj1, loj, fpj0⟩ := One.local (st2 := st) hj rfl (fun _ _ => rfl) (fun _ _ => rfl) (fun _ _ => rfl)
    have t1 : ∀ t, s1.tm t = if oj.dst = some t then xj else st.tm t := fun t => by rw [e1, put_tm, loj.t.1]
    have n1 : s1.n = st.n := by rw [e1, put_n, loj.t.2.1]
    obtain ⟨y, e2, hi2⟩ := look_one (st2 := st) hi hoi n1.symm (fun t ht => by rw [t1, if_neg (fun e => a2 t e ht)]) (fun t ht => by rw [t1, if_neg (fun e => a1 t e ht)]) (fun y => (lkOf_hpl hh y).symm)
    obtain ⟨xk, sk, sk2, e3, hj2, lok, fpk⟩ := One.local (st2 := st.put oi.dst y) hj (by rw [put_n]) (fun t ht => by rw [put_tm, if_neg (fun e => a4 t e ht)]) (fun t ht => by rw [put_tm, if_neg (fun e => a3 t e ht)]) (fun id _ => by rw [put_hp])
    refine ⟨_, hi2, ?_, ?_, fpk⟩
    · have : s2 = sk2.put oj.dst xk := by
        rw [e2]
        refine St.ext' ?_ ?_ ?_ (fun t => ?_) (fun id => ?_)
        · rw [put_n, put_n, lok.t2.2.1, put_n, e3, put_n, lok.t.2.1]
        · rw [St.put_next, St.put_next, lok.t2.2.2.1, St.put_next, e3, St.put_next, lok.t.2.2.1]
        · rw [put_gh, put_gh, lok.t2.2.2.2, put_gh, e3, put_gh, lok.t.2.2.2]
        · simp only [put_tm]
          rw [lok.t2.1, e3, put_tm, put_tm, lok.t.1]
          by_cases h1 : oj.dst = some t
          · rw [if_pos h1, if_neg (a5' t h1), if_pos h1]
          · rw [if_neg h1, if_neg h1]
        · rw [put_hp, put_hp, e3, put_hp]
          by_cases hw : id ∈ (fpV oj (base + j) st r1).2
          · exact (lok.a id hw).symm
          · rw [lok.b id hw, lok.c id hw, put_hp]
      rw [this]; exact hj2
    · have : st.ev mi = s1.ev mi := ev_congr (l := oi.op.operands.toList) n1.symm (fun t ht => by rw [t1, if_neg (fun e => a1 t e ht)]) mi (by rw [hoi]; simp [Op.operands])
      unfold fpV
      rw [hoi]
      simp only [this]
  · cases hlk
theorem lkB_comm {a b : Oper} (h : lkB a b = true) : lkB b a = true := by
  unfold lkB at h ⊢
  split at h
  · rename_i e1 e2; rw [e1, e2]
  · rename_i e1 e2; rw [e1, e2]
  · cases h
theorem swap {i j : Nat} {oi oj : Oper} {l : List (Nat × Oper)} {tr : List Tr} {st st' : St} (hol : ol = ops.toList) (hi : ops[i]? = some oi) (hn : ¬ Rch ops i j)
    (h : Run P T (some (chkC ops)) ol base ((j, oj) :: (i, oi) :: l) tr st st') : Run P T (some (chkC ops)) ol base ((i, oi) :: (j, oj) :: l) tr st st' := by
  cases h with
  | cons _ _ _ _ _ r1 s1 _ tr1 hj hcj h =>
  cases h with
  | cons _ _ _ _ _ r2 s2 _ tr2 hi1 hci hl =>
  obtain ⟨okj, rfl⟩ := chk_some.1 hcj
  obtain ⟨oki, rfl⟩ := chk_some.1 hci
  rw [ok_iff] at okj oki
  have hfpd : ∀ o i st r, (chkC ops).fp o i st r = fpV o i st r := fun _ _ _ _ => rfl
  simp only [hfpd] at okj oki hl
  have hpr := oki.2 _ (List.mem_cons_self ..)
  have hcase : (apartB ops.toList oj oi = true ∧ lkB oj oi = true) ∨ (apartB ops.toList oj oi = true ∧ disj (fpV oj (base + j) st r1).2 ((fpV oi (base + i) s1 r2).1 ++ (fpV oi (base + i) s1 r2).2) = true ∧ disj (fpV oi (base + i) s1 r2).2 ((fpV oj (base + j) st r1).1 ++ (fpV oj (base + j) st r1).2) = true) := by
    simp only [pr, Bool.or_eq_true, Bool.and_eq_true] at hpr
    rcases hpr with ((h | h) | h) | h
    · exact absurd (directB_rch hi h) hn
    · exact .inr ⟨h.1.1, h.1.2, h.2⟩
    · exact absurd (depB_rch h) hn
    · exact .inl h
  have hcomm : apartB ops.toList oj oi = true → apartB ops.toList oi oj = true := by
    intro hap
    simp only [apartB, Bool.and_eq_true, noD_iff] at hap ⊢
    obtain ⟨⟨⟨⟨a1, a2⟩, a3⟩, a4⟩, a5⟩ := hap
    refine ⟨⟨⟨⟨a3, a4⟩, a1⟩, a2⟩, fun t h1 h2 => ?_⟩
    have h2 : oj.dst = some t := by simpa using h2
    exact a5 t h2 (by rw [h1]; simp)
  rcases hcase with ⟨hap, hlk⟩ | hap
  · obtain ⟨s3, hi2, hj2, fpi, fpj⟩ := swap_lk hj hi1 hlk (hol ▸ hap)
    refine .cons _ _ _ _ _ r2 _ _ _ hi2 (chk_some.2 ⟨?_, rfl⟩) (.cons _ _ _ _ _ r1 _ _ _ hj2 (chk_some.2 ⟨?_, rfl⟩) ?_)
    · rw [ok_iff, hfpd, fpi]
      exact ⟨oki.1, fun e he => oki.2 e (List.mem_cons_of_mem _ he)⟩
    · rw [ok_iff, hfpd, hfpd, fpj, fpi]
      refine ⟨okj.1, fun e he => ?_⟩
      rcases List.mem_cons.1 he with rfl | he
      · simp only [pr, hcomm hap, lkB_comm hlk, Bool.and_self, Bool.or_true]
      · exact okj.2 e he
    · rw [hfpd, hfpd, fpj, fpi]
      refine Run.perm ?_ hl
      intro e he
      simp only [List.mem_cons] at he ⊢
      rcases he with h | h | h
      · exact .inr (.inl h)
      · exact .inl h
      · exact .inr (.inr h)
  obtain ⟨hap, hd1, hd2⟩ := hap
  have hap0 := hap
  rw [← hol] at hap
  simp only [apartB, Bool.and_eq_true, noD_iff] at hap
  obtain ⟨⟨⟨⟨a1, a2⟩, a3⟩, a4⟩, a5⟩ := hap
  rw [disj_iff] at hd1 hd2
  -- the first of the two, in its own place
  obtain ⟨x0, s0, _, e1, _, lo0, _⟩ := One.local hj rfl (fun _ _ => rfl) (fun _ _ => rfl) (fun _ _ => rfl)
  -- the second, ahead of it
  obtain ⟨xi, si, si2, e2, hi2, loi, fpi⟩ := One.local (st2 := st) hi1 (by rw [e1, put_n]; exact lo0.t.2.1.symm)
    (fun t ht => by rw [e1, put_tm, if_neg (fun e => a2 t e ht), lo0.t.1]) (fun t ht => by rw [e1, put_tm, if_neg (fun e => a1 t e ht), lo0.t.1])
    (fun id hid => by rw [e1, put_hp]; exact (lo0.c id (fun hw => hd1 id hw hid)).symm)
  -- the first, behind it
  obtain ⟨xj, sj, sj2, e3, hj2, loj, fpj⟩ := One.local (st2 := si2.put oi.dst xi) hj (by rw [put_n]; exact loi.t2.2.1)
    (fun t ht => by rw [put_tm, if_neg (fun e => a4 t e ht), loi.t2.1]) (fun t ht => by rw [put_tm, if_neg (fun e => a3 t e ht), loi.t2.1])
    (fun id hid => by rw [put_hp]; exact loi.b id (fun hw => hd2 id hw hid))
  have hs2 : sj2.put oj.dst xj = s2 := by
    rw [e2]
    refine St.ext' ?_ ?_ ?_ (fun t => ?_) (fun id => ?_)
    · rw [put_n, put_n, loj.t2.2.1, put_n, loi.t2.2.1, loi.t.2.1, e3, put_n, loj.t.2.1]
    · rw [St.put_next, St.put_next, loj.t2.2.2.1, St.put_next, loi.t2.2.2.1, loi.t.2.2.1, e3, St.put_next, loj.t.2.2.1]
    · rw [put_gh, put_gh, loj.t2.2.2.2, put_gh, loi.t2.2.2.2, loi.t.2.2.2, e3, put_gh, loj.t.2.2.2]
    · rw [put_tm, put_tm, loj.t2.1, put_tm, loi.t2.1, loi.t.1, e3, put_tm, loj.t.1]
      by_cases h1 : oj.dst = some t
      · rw [if_pos h1]
        have : oi.dst ≠ some t := fun h2 => a5 t h1 (by rw [h2]; simp)
        rw [if_neg this, if_pos h1]
      · rw [if_neg h1]
        by_cases h2 : oi.dst = some t
        · rw [if_pos h2, if_pos h2]
        · rw [if_neg h2, if_neg h2, if_neg h1]
    · rw [put_hp, put_hp]
      by_cases hw : id ∈ (fpV oj (base + j) st r1).2
      · rw [loj.a id hw]
        have hwi : id ∉ (fpV oi (base + i) s1 r2).2 := fun h => hd1 id hw (List.mem_append_right _ h)
        rw [loi.c id hwi, e3, put_hp]
      · rw [loj.b id hw, put_hp]
        by_cases hwi : id ∈ (fpV oi (base + i) s1 r2).2
        · exact loi.a id hwi
        · rw [loi.b id hwi, loi.c id hwi, e3, put_hp, loj.c id hw]
  refine .cons _ _ _ _ _ r2 _ _ _ hi2 (chk_some.2 ⟨?_, rfl⟩) (.cons _ _ _ _ _ r1 _ _ _ hj2 (chk_some.2 ⟨?_, rfl⟩) ?_)
  · rw [ok_iff, hfpd, fpi]
    exact ⟨oki.1, fun e he => oki.2 e (List.mem_cons_of_mem _ he)⟩
  · rw [ok_iff, hfpd, hfpd, fpj, fpi]
    refine ⟨okj.1, fun e he => ?_⟩
    rcases List.mem_cons.1 he with rfl | he
    · have : apartB ops.toList oi oj = true := by
        rw [← hol]
        simp only [apartB, Bool.and_eq_true, noD_iff]
        refine ⟨⟨⟨⟨a3, a4⟩, a1⟩, a2⟩, fun t h1 h2 => ?_⟩
        have h2 : oj.dst = some t := by simpa using h2
        exact a5 t h2 (by rw [h1]; simp)
      simp only [pr, this, Bool.true_and, disj_iff.2 hd1, disj_iff.2 hd2, Bool.and_self, Bool.or_true, Bool.true_or]
    · exact okj.2 e he
  · rw [hs2, hfpd, hfpd, fpj, fpi]
    refine Run.perm ?_ hl
    intro e he
    simp only [List.mem_cons] at he ⊢
    rcases he with h | h | h
    · exact .inr (.inl h)
    · exact .inl h
    · exact .inr (.inr h)
theorem bubble {i : Nat} {oi : Oper} (hol : ol = ops.toList) (hi : ops[i]? = some oi) : ∀ {p q : List (Nat × Oper)} {tr : List Tr} {st st' : St}, (∀ x, x ∈ p → ¬ Rch ops i x.1) →
    Run P T (some (chkC ops)) ol base (p ++ (i, oi) :: q) tr st st' → Run P T (some (chkC ops)) ol base ((i, oi) :: (p ++ q)) tr st st'
  | [], q, tr, st, st', _, h => h
  | (j, oj) :: p, q, tr, st, st', hp, h => by
    cases h with
    | cons _ _ _ _ _ r s _ tr1 h1 h2 h3 =>
      have := bubble hol hi (fun x hx => hp x (List.mem_cons_of_mem _ hx)) h3
      exact swap hol hi (hp _ (List.mem_cons_self ..)) (.cons _ _ _ _ _ r s _ tr1 h1 h2 this)
theorem Run.down : ∀ {l : List (Nat × Oper)} {tr : List Tr} {st st' : St}, Run P T (some (chkC ops)) ol base l tr st st' → ∀ p, p ∈ l → downB p.2 p.1 = true
  | [], _, _, _, _, p, hp => by cases hp
  | (i, o) :: l, tr, st, st', h, p, hp => by
    cases h with
    | cons _ _ _ _ _ r s _ tr1 h1 h2 h3 =>
      obtain ⟨ok, _⟩ := chk_some.1 h2
      rcases List.mem_cons.1 hp with rfl | hp
      · exact (ok_iff.1 ok).1
      · exact Run.down h3 p hp
theorem any_sound (hT : TsOk P T) {B : Base} {ro : Option Nat} {n : Nat} {Q : Exit → Act → World → Prop} {d0 : List Deferred} (hol : ol = ops.toList) {st' : St} (hend : ∀ done E' a' W', (∀ k, k < ops.size → k ∈ done) → (∀ k ∈ done, k < ops.size) → Sat B (frd base done) E' st' a' W' → a'.defers = d0 → Q .normal a' W') :
    ∀ (fuel : Nat) (listed : Array Bool) (done : List Nat) (l : List (Nat × Oper)) (tr : List Tr) (st : St) (E : Env) (a : Act) (W : World), l.length ≤ fuel → listed.size = ops.size → (∀ k, k < ops.size → (listed.getD k true = true ↔ k ∈ done)) → (∀ k ∈ done, k < ops.size) →
      (∀ k, k < ops.size → (k ∈ done ↔ k ∉ l.map (·.1))) → (∀ p, p ∈ l → ops[p.1]? = some p.2) → l.Pairwise (fun p q => p.1 < q.1) → (∀ k o, k ∈ done → ops[k]? = some o → ∀ e, e ∈ o.after → Region.binds .any e = true → e.on ∈ done) →
      Run P T (some (chkC ops)) ol base l tr st st' → Sat B (frd base done) E st a W → a.defers = d0 → wpAnyIn (Fr0 ro) n P .any ops Q fuel listed a W := by
  have key : ∀ (listed : Array Bool) (done : List Nat) (l : List (Nat × Oper)) (tr : List Tr) (st : St) (E : Env) (a : Act) (W : World), listed.size = ops.size → (∀ k, k < ops.size → (listed.getD k true = true ↔ k ∈ done)) → (∀ k ∈ done, k < ops.size) →
      (∀ k, k < ops.size → (k ∈ done ↔ k ∉ l.map (·.1))) → (∀ p, p ∈ l → ops[p.1]? = some p.2) → l.Pairwise (fun p q => p.1 < q.1) → Run P T (some (chkC ops)) ol base l tr st st' → Sat B (frd base done) E st a W → a.defers = d0 →
      Region.ready .any ops listed = [] → Q .normal a W := by
    intro listed done l tr st E a W hsz hl hdn hdl hops hpw hrun hs hd hr
    cases l with
    | nil =>
      cases hrun
      exact hend done E a W (fun k hk => (hdl k hk).2 (by simp)) hdn hs hd
    | cons p l =>
      exfalso
      obtain ⟨i, o⟩ := p
      have hi : ops[i]? = some o := hops (i, o) (List.mem_cons_self ..)
      have hisz := (Array.getElem?_eq_some_iff.1 hi).1
      have : i ∈ Region.ready .any ops listed := by
        rw [mem_ready]
        refine ⟨?_, o, hi, fun e he hb => ?_⟩
        · rw [← Bool.not_eq_true, hl i hisz, hdl i hisz]; simp
        · have hdown := hrun.down (i, o) (List.mem_cons_self ..)
          unfold downB at hdown
          rw [List.all_eq_true] at hdown
          have := hdown e (Array.mem_toList_iff.2 he)
          simp only [hb, Bool.not_true, Bool.false_or] at this
          have hlt := blt_iff.1 this
          have hksz : e.on < ops.size := by omega
          have hd : e.on ∈ done := by
            rw [hdl e.on hksz]
            intro hm
            rcases List.mem_cons.1 hm with h1 | h1
            · simp only at h1; omega
            · obtain ⟨q, hq, h2⟩ := List.mem_map.1 h1
              have := (List.pairwise_cons.1 hpw).1 q hq
              simp only at this; omega
          have := (hl e.on hksz).2 hd
          simp only [Array.getD, hsz, hksz, dif_pos] at this ⊢
          exact this
      rw [hr] at this; cases this
  intro fuel
  induction fuel with
  | zero =>
    intro listed done l tr st E a W hlen hsz hl hdn hdl hops hpw hcl hrun hs hd
    have hl0 : l = [] := List.length_eq_zero_iff.1 (by omega)
    have hready : Region.ready .any ops listed = [] := by
      subst hl0
      refine List.eq_nil_iff_forall_not_mem.2 fun i hi => ?_
      obtain ⟨h1, o, h2, _⟩ := mem_ready.1 hi
      have hisz := (Array.getElem?_eq_some_iff.1 h2).1
      have := (hl i hisz).2 ((hdl i hisz).2 (by simp))
      rw [h1] at this; cases this
    exact ⟨hready, key listed done l tr st E a W hsz hl hdn hdl hops hpw hrun hs hd hready⟩
  | succ fuel ih =>
    intro listed done l tr st E a W hlen hsz hl hdn hdl hops hpw hcl hrun hs hd
    refine ⟨key listed done l tr st E a W hsz hl hdn hdl hops hpw hrun hs hd, fun i hi => ?_⟩
    obtain ⟨h1, o, h2, h3⟩ := mem_ready.1 hi
    have hisz := (Array.getElem?_eq_some_iff.1 h2).1
    have hnd : i ∉ done := fun h => by have := (hl i hisz).2 h; rw [h1] at this; cases this
    have hil : i ∈ l.map (·.1) := by
      apply Classical.byContradiction
      intro h; exact hnd ((hdl i hisz).2 h)
    obtain ⟨⟨i', o'⟩, hmem, rfl⟩ := List.mem_map.1 hil
    obtain ⟨p, q, rfl⟩ := List.append_of_mem hmem
    have ho : o' = o := by have := hops _ hmem; simp only at this h2; rw [h2] at this; exact (Option.some.inj this).symm
    subst ho
    simp only at h1 h2 hisz hnd hi hil
    have hdeps : ∀ e, e ∈ o'.after → Region.binds .any e = true → e.on ∈ done := by
      intro e he hb
      have h4 := h3 e he hb
      by_cases hk : e.on < ops.size
      · rw [← hl e.on hk]
        simp only [Array.getD, hsz, hk, dif_pos] at h4 ⊢
        exact h4
      · simp only [Array.getD, hsz, hk, dif_neg, not_false_eq_true] at h4; cases h4
    have hrchd : ∀ {k j}, Rch ops k j → k ∈ done → j ∈ done := by
      intro k j h
      induction h with
      | one h1 h2 h3 => exact fun hk => hcl _ _ hk h1 _ h2 h3
      | step h1 h2 h3 _ ih => exact fun hk => ih (hcl _ _ hk h1 _ h2 h3)
    have hrch : ∀ {j}, Rch ops i' j → j ∈ done := by
      intro j h
      cases h with
      | one h4 h5 h6 => rw [h2] at h4; cases h4; exact hdeps _ h5 h6
      | step h4 h5 h6 h7 => rw [h2] at h4; cases h4; exact hrchd h7 (hdeps _ h5 h6)
    have hb := bubble hol h2 (fun x hx hr => by
      have hxm : x ∈ p ++ (i', o') :: q := List.mem_append_left _ hx
      have hxs := (Array.getElem?_eq_some_iff.1 (hops x hxm)).1
      exact (hdl x.1 hxs).1 (hrch hr) (List.mem_map.2 ⟨x, hxm, rfl⟩)) hrun
    cases hb with
    | cons _ _ _ _ _ r s _ tr1 hone hchk hrun2 =>
      refine one_sound hT hs hol h2 hnd hone fun E' a' W' hs' hd' => ?_
      have hnodup : ∀ x, x ∈ p ++ q → x.1 ≠ i' := by
        intro x hx e
        rw [List.pairwise_append] at hpw
        rcases List.mem_append.1 hx with hx | hx
        · have := hpw.2.2 x hx (i', o') (List.mem_cons_self ..); simp only at this; omega
        · have := (List.pairwise_cons.1 hpw.2.1).1 x hx; simp only at this; omega
      refine ih _ (i' :: done) (p ++ q) tr1 s E' a' W' ?_ (by simpa using hsz) (fun k hk => ?_) (fun k hk => ?_) (fun k hk => ?_) (fun x hx => hops x ?_) ?_ ?_ hrun2 hs' (hd'.trans hd)
      · simp only [List.length_append, List.length_cons] at hlen ⊢; omega
      · by_cases e : k = i'
        · subst e
          simp only [List.mem_cons, true_or, iff_true]
          simp [Array.getD, hsz, hk]
        · rw [getD_set_ne true (fun h => e h.symm), hl k hk]; simp [e]
      · rcases List.mem_cons.1 hk with rfl | hk
        · exact hisz
        · exact hdn k hk
      · have := hdl k hk
        simp only [List.mem_cons, List.map_append, List.map_cons, List.mem_append] at this ⊢
        constructor
        · rintro (rfl | h)
          · rintro (h | h)
            · obtain ⟨x, hx, e⟩ := List.mem_map.1 h; exact hnodup x (List.mem_append_left _ hx) e
            · obtain ⟨x, hx, e⟩ := List.mem_map.1 h; exact hnodup x (List.mem_append_right _ hx) e
          · have := this.1 h
            rintro (h | h)
            · exact this (.inl h)
            · exact this (.inr (.inr h))
        · intro h
          by_cases e : k = i'
          · exact .inl e
          · refine .inr (this.2 ?_)
            rintro (h1 | h1 | h1)
            · exact h (.inl h1)
            · exact e h1
            · exact h (.inr h1)
      · rcases List.mem_append.1 hx with hx | hx
        · exact List.mem_append_left _ hx
        · exact List.mem_append_right _ (List.mem_cons_of_mem _ hx)
      · exact hpw.sublist (List.Sublist.append (List.Sublist.refl _) (List.sublist_cons_self ..))
      · intro k o2 hk h4 e he hb
        rcases List.mem_cons.1 hk with rfl | hk
        · rw [h2] at h4; cases h4; exact List.mem_cons_of_mem _ (hdeps e he hb)
        · exact List.mem_cons_of_mem _ (hcl k o2 hk h4 e he hb)
/-- A region that draws its order. -/
theorem draw_sound (hT : TsOk P T) (hm : P.follows .mixedOrders = true) {B : Base} {ops : Array Oper} {st st' : St} {E : Env} {a : Act} {W : World} {ro : Option Nat} {n id : Nat} {Q : Exit → Act → World → Prop} (hrun : Run P T (some (chkC ops)) ops.toList st.next (zipI 0 ops.toList) [] st st')
    (hs : Sat B (frd st.next []) E st a W) (hq : ∀ E' a' W', Sat B (frd st.next (List.range ops.size)) E' st' a' W' → a'.defers = a.defers → Q .normal a' W') : (Code.region id ops true).wpIn (Fr0 ro) n P Q a W := by
  refine wpIn_region_any hm ?_
  have hz : (zipI 0 ops.toList).map (·.1) = List.range ops.size := by rw [zipI_map, List.range_eq_range', Array.length_toList]
  refine any_sound hT rfl (d0 := a.defers) (fun done E' a' W' h1 h2 h3 h4 => ?_) ops.size _ [] _ [] st E a _ ?_ (by simp) (fun k hk => ?_) (by simp) (fun k hk => ?_) (fun p hp => ?_) ?_ (by simp) hrun hs.drew rfl
  · refine hq E' a' W' (h3.weak fun j hj => ⟨hj.1, fun k hk => hj.2 k (List.mem_range.2 (h2 k hk))⟩) h4
  · have := congrArg List.length hz
    simp only [List.length_map, List.length_range] at this
    omega
  · simp [Array.getD, hk]
  · rw [hz]; simp [hk]
  · have := (zipI_get _ _ _ hp).2
    simpa using this
  · have : ∀ (l : List Oper) (i : Nat), (zipI i l).Pairwise fun p q => p.1 < q.1 := by
      intro l
      induction l with
      | nil => intro i; exact List.Pairwise.nil
      | cons o l ih => intro i; exact List.pairwise_cons.2 ⟨fun p hp => by have := (zipI_get l (i + 1) p hp).1; simp only; omega, ih (i + 1)⟩
    exact this _ _
theorem step_gh {o : Oper} {i : Nat} {st : St} {r : CR} {c : Prop} {x : AV} {s : St} (h : stepV P T i o.op o.type st r = some (c, x, s)) : s.gh = st.gh := by
  obtain ⟨_, _, h2⟩ := step_local (st2 := st) h (fun _ _ => rfl) (fun _ _ => rfl)
  exact h2.t.2.2.2
theorem Run.gh {C0 : Chk} : ∀ {l : List (Nat × Oper)} {tr : List Tr} {st st' : St}, Run P T (some C0) ol base l tr st st' → st'.gh = st.gh
  | [], _, _, _, h => by cases h; rfl
  | (i, o) :: l, _, _, _, h => by
    cases h with
    | cons _ _ _ _ _ r s _ tr1 h1 h2 h3 =>
      refine (Run.gh h3).trans ?_
      cases h1 with
      | skip _ => exact put_gh ..
      | run _ c x s0 _ hs _ _ => rw [put_gh]; exact step_gh hs
end
end Go.Px
end

/-! PxS -/
noncomputable section
namespace Go.Px
open Go Go.RowKit
def AllL {α : Type} : List α → (α → Prop) → Prop
  | [], _ => True
  | x :: l, p => p x ∧ AllL l p
theorem allL_iff {α : Type} {l : List α} {p : α → Prop} : AllL l p ↔ ∀ x ∈ l, p x := by
  induction l with
  | nil => simp [AllL]
  | cons x l ih => simp [AllL, ih]
/-- The same of an element's cells. -/
def CImp (x y : DV) : Prop :=
  match y with
  | .top => True
  | .ag n g => match x with
    | .ag m f => m = n ∧ AllN n fun j => DImp (f j) (g j)
    | _ => False
  | y => match x with
    | .ag .. => False
    | .top => False
    | x => DImp x y
theorem CImp.repC {S : Nat → Prop} {W : World} {k : Nat} {x y : DV} {c : Nat → Value} (h : CImp x y) (hx : RepC S W k x c) : RepC S W k y c := by
  have gen : (∀ n f, x ≠ .ag n f) → x ≠ .top → (∀ n f, y ≠ .ag n f) → DImp x y → RepC S W k y c := by
    intro h1 h2 h3 h
    have hx' : k = 1 ∧ Rep S W x (c 0) := by
      cases x <;> first | exact absurd rfl (h1 _ _) | exact absurd rfl h2 | exact hx
    have := (h.imp S W).1 _ hx'.2
    cases y <;> first | exact absurd rfl (h3 _ _) | exact trivial | exact ⟨hx'.1, this⟩
  cases y with
  | top => exact trivial
  | ag n g =>
    cases x <;> first | exact h.elim | skip
    exact ⟨h.1 ▸ hx.1, fun j hj => ((allN_iff.1 h.2 j hj).imp S W).1 _ (hx.2 j (h.1 ▸ hj))⟩
  | v u => cases x <;> first | exact h.elim | exact gen nofun nofun nofun h
  | tp n f => cases x <;> first | exact h.elim | exact gen nofun nofun nofun h
  | sl t k n f => cases x <;> first | exact h.elim | exact gen nofun nofun nofun h
  | pt z o => cases x <;> first | exact h.elim | exact gen nofun nofun nofun h
  | fn g n m f c => cases x <;> first | exact h.elim | exact gen nofun nofun nofun h
  | mp kt m => cases x <;> first | exact h.elim | exact gen nofun nofun nofun h
/-- The same of a slot; m: which memory of the source the target's name means. -/
def AImp (m : Nat → Option Nat) : AV → AV → Prop
  | x, .d y => match x with
    | .d x => DImp x y
    | .ag n f => match y with
      | .top => True
      | .ag n' g => n = n' ∧ AllN n' fun j => match f j with
        | .d z => DImp z (g j)
        | _ => False
      | _ => False
    | .fn g n p f c => match y with
      | .top => True
      | .fn g' n' p' f' c' => g = g' ∧ n = n' ∧ p = p' ∧ (AllN n' fun j => match f j with
        | .d z => DImp z (f' j)
        | _ => False) ∧ AllN p' fun j => match c j with
        | .d z => DImp z (c' j)
        | _ => False
      | _ => False
    | .ms _ _ _ n => match y with
      | .top => True
      | .sl t _ q _ => n = 0 ∧ q = 0 ∧ t = false
      | _ => False
    | _ => match y with
      | .top => True
      | _ => False
  | x, .ref j o => match x with
    | .ref i o' => m j = some i ∧ o' = o
    | _ => False
  | x, .el j k a o => match x with
    | .el i k' a' o' => m j = some i ∧ k' = k ∧ a' = a ∧ o' = o
    | _ => False
  | x, .ms j k a n => match x with
    | .ms i k' a' n' => m j = some i ∧ k' = k ∧ a' = a ∧ n' = n
    | _ => False
  | x, .ag n g => match x with
    | .ag n' f => n' = n ∧ AllN n fun j => AImp m (f j) (g j)
    | .d (.ag n' f) => n' = n ∧ AllN n fun j => AImp m (.d (f j)) (g j)
    | _ => False
  | x, .fn g n p f c => match x with
    | .fn g' n' p' f' c' => g' = g ∧ n' = n ∧ p' = p ∧ (AllN n fun j => AImp m (f' j) (f j)) ∧ AllN p fun j => AImp m (c' j) (c j)
    | .d (.fn g' n' p' f' c') => g' = g ∧ n' = n ∧ p' = p ∧ (AllN n fun j => AImp m (.d (f' j)) (f j)) ∧ AllN p fun j => AImp m (.d (c' j)) (c j)
    | _ => False
  | x, .mp j => match x with
    | .mp i => m j = some i
    | _ => False
  | x, .tp n g => match x with
    | .tp n' f => n' = n ∧ AllN n fun j => AImp m (f j) (g j)
    | .d (.tp n' f) => n' = n ∧ AllN n fun j => AImp m (.d (f j)) (g j)
    | _ => False
  | x, .stp j => match x with
    | .stp i => m j = some i
    | _ => False
  | x, .sub j k a => match x with
    | .sub i k' a' => m j = some i ∧ k' = k ∧ a' = a
    | _ => False
def Env.ren (E : Env) (m : Nat → Option Nat) : Env := { E with ρ := fun j => match m j with | some i => E.ρ i | none => .un }
theorem AImp.rep {E : Env} {W : World} {m : Nat → Option Nat} : ∀ {y x : AV} {u : Value}, AImp m x y → RepA E W x u → RepA (E.ren m) W y u := by
  have hm : ∀ {i j : Nat}, m j = some i → (E.ren m).ρ j = E.ρ i := fun h => by simp [Env.ren, h]
  intro y
  induction y with
  | d y =>
    intro x u h hx
    unfold AImp at h
    split at h
    · exact (h.imp E.S W).1 _ hx
    · split at h
      · trivial
      · obtain ⟨cs, rfl, hs, hc⟩ := hx
        refine ⟨cs, rfl, hs.trans h.1, fun j hj => ?_⟩
        have := allN_iff.1 h.2 j hj
        split at this
        · rename_i z hz
          have hj' := hc j (h.1 ▸ hj)
          rw [hz] at hj'
          exact ⟨(this.imp E.S W).1 _ hj'.1, hj'.2⟩
        · exact this.elim
      · exact h.elim
    · split at h
      · trivial
      · obtain ⟨fs, cs, rfl, hs, hs', hf, hc⟩ := hx
        obtain ⟨rfl, rfl, rfl, h4, h5⟩ := h
        refine ⟨fs, cs, rfl, hs, hs', fun j hj => ?_, fun j hj => ?_⟩
        · have := allN_iff.1 h4 j hj
          split at this
          · rename_i z hz
            have hj' := hf j hj
            rw [hz] at hj'
            exact (this.imp E.S W).1 _ hj'
          · exact this.elim
        · have := allN_iff.1 h5 j hj
          split at this
          · rename_i z hz
            have hj' := hc j hj
            rw [hz] at hj'
            exact (this.imp E.S W).1 _ hj'
          · exact this.elim
      · exact h.elim
    · split at h
      · trivial
      · obtain ⟨rfl, rfl, rfl⟩ := h
        rcases hx with ⟨_, _, rfl⟩ | ⟨b, o, cap, c, T, _, rfl, h3, _⟩
        · exact ⟨none, 0, rfl, Nat.le_refl _, nofun, fun _ => rfl, fun x e => by cases e⟩
        · exact ⟨some ⟨b, o, none⟩, cap, rfl, h3, nofun, nofun, fun x _ i hi => absurd hi (Nat.not_lt_zero i)⟩
      · exact h.elim
    · split at h
      · trivial
      · exact h.elim
  | ref j o =>
    intro x u h hx
    unfold AImp at h
    split at h
    · obtain ⟨h1, rfl⟩ := h
      obtain ⟨b, hb, rfl⟩ := hx
      exact ⟨b, (hm h1).trans hb, rfl⟩
    · exact h.elim
  | el j k a o =>
    intro x u h hx
    unfold AImp at h
    split at h
    · obtain ⟨h1, rfl, rfl, rfl⟩ := h
      obtain ⟨b, hb, rfl⟩ := hx
      exact ⟨b, (hm h1).trans hb, rfl⟩
    · exact h.elim
  | ms j k a n =>
    intro x u h hx
    unfold AImp at h
    split at h
    · obtain ⟨h1, rfl, rfl, rfl⟩ := h
      rcases hx with ⟨hb, h2, rfl⟩ | ⟨b, o, cap, c, T, hb, h2⟩
      · exact .inl ⟨(hm h1).trans hb, h2, rfl⟩
      · exact .inr ⟨b, o, cap, c, T, (hm h1).trans hb, h2⟩
    · exact h.elim
  | ag n g ih =>
    intro x u h hx
    unfold AImp at h
    split at h
    · obtain ⟨rfl, h2⟩ := h
      obtain ⟨cs, rfl, hs, hc⟩ := hx
      exact ⟨cs, rfl, hs, fun j hj => ⟨ih j (allN_iff.1 h2 j hj) (hc j hj).1, (hc j hj).2⟩⟩
    · obtain ⟨rfl, h2⟩ := h
      obtain ⟨cs, rfl, hs, hc⟩ := hx
      exact ⟨cs, rfl, hs, fun j hj => ⟨ih j (allN_iff.1 h2 j hj) (hc j hj).1, (hc j hj).2⟩⟩
    · exact h.elim
  | fn g n p f c ih1 ih2 =>
    intro x u h hx
    unfold AImp at h
    split at h
    · obtain ⟨rfl, rfl, rfl, h4, h5⟩ := h
      obtain ⟨fs, cs, rfl, hs, hs', hf, hc⟩ := hx
      exact ⟨fs, cs, rfl, hs, hs', fun j hj => ih1 j (allN_iff.1 h4 j hj) (hf j hj), fun j hj => ih2 j (allN_iff.1 h5 j hj) (hc j hj)⟩
    · obtain ⟨rfl, rfl, rfl, h4, h5⟩ := h
      obtain ⟨fs, cs, rfl, hs, hs', hf, hc⟩ := hx
      exact ⟨fs, cs, rfl, hs, hs', fun j hj => ih1 j (allN_iff.1 h4 j hj) (hf j hj), fun j hj => ih2 j (allN_iff.1 h5 j hj) (hc j hj)⟩
    · exact h.elim
  | mp j =>
    intro x u h hx
    unfold AImp at h
    split at h
    · obtain ⟨b, hb, rfl⟩ := hx
      exact ⟨b, (hm h).trans hb, rfl⟩
    · exact h.elim
  | tp n g ih =>
    intro x u h hx
    unfold AImp at h
    split at h
    · obtain ⟨rfl, h2⟩ := h
      obtain ⟨cs, rfl, hs, hc⟩ := hx
      exact ⟨cs, rfl, hs, fun j hj => ih j (allN_iff.1 h2 j hj) (hc j hj)⟩
    · obtain ⟨rfl, h2⟩ := h
      obtain ⟨cs, rfl, hs, hc⟩ := hx
      exact ⟨cs, rfl, hs, fun j hj => ih j (allN_iff.1 h2 j hj) (hc j hj)⟩
    · exact h.elim
  | stp j =>
    intro x u h hx
    unfold AImp at h
    split at h
    · obtain ⟨b, hb, rfl⟩ := hx
      exact ⟨b, (hm h).trans hb, rfl⟩
    · exact h.elim
  | sub j k a =>
    intro x u h hx
    unfold AImp at h
    split at h
    · obtain ⟨h1, rfl, rfl⟩ := h
      obtain ⟨b, hb, rfl⟩ := hx
      exact ⟨b, (hm h1).trans hb, rfl⟩
    · exact h.elim
def MImp (f g : List Int → Option Int) : Prop := ∀ k, f k = g k
def RImp (m : Nat → Option Nat) (x y : Res) : Prop :=
  match y with
  | .cs b n g => match x with
    | .cs a n' f => a = b ∧ n' = n ∧ AllN n fun j => AImp m (f j) (g j)
    | _ => False
  | .row b T k n g => match x with
    | .row a T' k' n' f => a = b ∧ T' = T ∧ k' = k ∧ n' = n ∧ ∀ j, j < n → CImp (f j) (g j)
    | _ => False
  | .mp b kt g => match x with
    | .mp a kt' f => a = b ∧ kt' = kt ∧ MImp f g
    | _ => False
  | .me .. => False
  | .it b kt g sn cur => match x with
    | .it a kt' f sn' cur' => a = b ∧ kt' = kt ∧ MImp f g ∧ sn' = sn ∧ (match cur with
      | none => True
      | some q => cur' = some q)
    | _ => False
theorem RImp.sat {B : Base} {E : Env} {W : World} {m : Nat → Option Nat} {x y : Res} {i j : Nat} (h : RImp m x y) (hm : m j = some i) (hx : SatR B E W i x) : SatR B (E.ren m) W j y := by
  have hj : (E.ren m).ρ j = E.ρ i := by simp [Env.ren, hm]
  unfold RImp at h
  split at h
  · split at h
    · obtain ⟨rfl, rfl, h3⟩ := h
      obtain ⟨b, c, T, h4, h5, h6, h7, h8⟩ := hx
      exact ⟨b, c, T, hj.trans h4, h5, h6, h7, fun q hq => ⟨(allN_iff.1 h3 q hq).rep (h8 q hq).1, (h8 q hq).2⟩⟩
    · exact h.elim
  · split at h
    · obtain ⟨rfl, rfl, rfl, rfl, h3⟩ := h
      rcases hx with ⟨h4, h5⟩ | ⟨b, c, h4, h5, h6, h7, h8⟩
      · exact .inl ⟨hj.trans h4, h5⟩
      · exact .inr ⟨b, c, hj.trans h4, h5, h6, h7, fun q hq => ⟨(h3 q hq).repC (h8 q hq).1, (h8 q hq).2⟩⟩
    · exact h.elim
  · split at h
    · obtain ⟨rfl, rfl, h3⟩ := h
      obtain ⟨b, es, c, h4, h5, h6, h7⟩ := hx
      rw [show _ = _ from funext h3] at h7
      exact ⟨b, es, c, hj.trans h4, h5, h6, h7⟩
    · exact h.elim
  · exact h.elim
  · split at h
    · obtain ⟨rfl, rfl, h3, rfl, h4⟩ := h
      obtain ⟨b, r, es, c, sn, k1, k2, k3, k4, k5, k6, k7, k8⟩ := hx
      rw [show _ = _ from funext h3] at k6
      refine ⟨b, r, es, c, sn, hj.trans k1, k2, k3, k4, k5, k6, k7, fun k x e => ?_⟩
      subst e
      exact k8 k x h4
    · exact h.elim
/-- What is told of a state: some slots, some memories (their names: any numbers below nx); how many yields there were. -/
structure LS where
  nx : Nat
  tm : List (Nat × AV)
  hp : List (Nat × Res)
  gh : Option Nat
def lookN {α : Type} (d : α) : List (Nat × α) → Nat → α
  | [], _ => d
  | (i, x) :: l, j => bif Nat.beq i j then x else lookN d l j
def lookO {α : Type} : List (Nat × α) → Nat → Option α
  | [], _ => none
  | (i, x) :: l, j => bif Nat.beq i j then some x else lookO l j
noncomputable def LS.st (n : Nat) (s : LS) : St := LS.rec (motive := fun _ => St) (fun nx tm hp gh => ⟨n, nx, lookN (.d .top) tm, lookO hp, gh⟩) s
theorem lookN_mem {α : Type} {d : α} : ∀ (l : List (Nat × α)) (j : Nat), lookN d l j = d ∨ (j, lookN d l j) ∈ l
  | [], _ => .inl rfl
  | (i, x) :: l, j => by
    unfold lookN
    cases h : Nat.beq i j with
    | true => obtain rfl := Nat.eq_of_beq_eq_true h; exact .inr (List.mem_cons_self ..)
    | false => exact (lookN_mem l j).imp id fun h => List.mem_cons_of_mem _ h
theorem lookO_mem {α : Type} : ∀ (l : List (Nat × α)) (j : Nat) (x : α), lookO l j = some x → (j, x) ∈ l
  | [], _, _, h => by cases h
  | (i, y) :: l, j, x, h => by
    unfold lookO at h
    cases hb : Nat.beq i j with
    | true => rw [hb] at h; obtain rfl := Nat.eq_of_beq_eq_true hb; cases h; exact List.mem_cons_self ..
    | false => rw [hb] at h; exact List.mem_cons_of_mem _ (lookO_mem l j x h)
/-- Which source name stands where a target's name stands. -/
def pairA : AV → AV → List (Nat × Nat)
  | x, .ref j _ => match x with | .ref i _ => [(j, i)] | _ => []
  | x, .el j _ _ _ => match x with | .el i _ _ _ => [(j, i)] | _ => []
  | x, .ms j _ _ _ => match x with | .ms i _ _ _ => [(j, i)] | _ => []
  | x, .ag n g => match x with | .ag _ f => (List.range n).flatMap fun q => pairA (f q) (g q) | _ => []
  | x, .fn _ n p f c => match x with | .fn _ _ _ f' c' => ((List.range n).flatMap fun q => pairA (f' q) (f q)) ++ (List.range p).flatMap fun q => pairA (c' q) (c q) | _ => []
  | _, .d _ => []
  | x, .mp j => match x with | .mp i => [(j, i)] | _ => []
  | x, .tp n g => match x with | .tp _ f => (List.range n).flatMap fun q => pairA (f q) (g q) | _ => []
  | x, .sub j _ _ => match x with | .sub i _ _ => [(j, i)] | _ => []
  | x, .stp j => match x with | .stp i => [(j, i)] | _ => []
def pairR (st : St) (m : List (Nat × Nat)) (p : Nat × Res) : List (Nat × Nat) :=
  match p.2 with
  | .cs _ n g => match lookO m p.1 with
    | some i => match st.hp i with
      | some (.cs _ _ f) => (List.range n).flatMap fun q => pairA (f q) (g q)
      | _ => []
    | none => []
  | _ => []
def pins : Nat → List (Nat × Nat)
  | 0 => []
  | n + 1 => (n, n) :: pins n
/-- np: names that must stay as they are. -/
def srcs (np : Nat) (st : St) (s : LS) : List (Nat × Nat) :=
  let m := pins np ++ s.tm.flatMap fun p => pairA (st.tm p.1) p.2
  let m := m ++ s.hp.flatMap (pairR st m)
  m ++ s.hp.flatMap (pairR st m)
def srcOf (np : Nat) (st : St) (s : LS) (j : Nat) : Option Nat := bif Nat.blt j s.nx then lookO (srcs np st s) j else none
theorem lookO_app {α : Type} {j : Nat} {x : α} : ∀ {l m : List (Nat × α)}, lookO l j = some x → lookO (l ++ m) j = some x
  | [], _, h => by cases h
  | (i, y) :: l, m, h => by
    simp only [List.cons_append, lookO] at h ⊢
    cases hb : Nat.beq i j with
    | true => rw [hb] at h; exact h
    | false => rw [hb] at h; exact lookO_app h
theorem pins_look : ∀ {np j : Nat}, j < np → lookO (pins np) j = some j
  | n + 1, j, h => by
    simp only [pins, lookO]
    cases hb : Nat.beq n j with
    | true => rw [Nat.eq_of_beq_eq_true hb]; rfl
    | false => exact pins_look (by
        have : n ≠ j := fun e => by rw [e, Nat.beq_refl] at hb; cases hb
        omega)
theorem srcOf_pin {np : Nat} {st : St} {s : LS} {j : Nat} (h : j < np) (hn : np ≤ s.nx) : srcOf np st s j = some j := by
  unfold srcOf
  rw [blt_iff.2 (Nat.lt_of_lt_of_le h hn)]
  simp only [cond_true, srcs]
  exact lookO_app (lookO_app (lookO_app (pins_look h)))
def nodupO : List (Option Nat) → Bool
  | [] => true
  | x :: l => (l.all fun y => match x, y with | some i, some j => !Nat.beq i j | _, _ => false) && nodupO l
/-- A state says what is told; m: which memory a name means. -/
def EdgeM (m : Nat → Option Nat) (np : Nat) (st : St) (s : LS) : Prop :=
  AllL s.tm (fun p => AImp m (st.tm p.1) p.2) ∧
  AllL s.hp (fun p => match m p.1 with
    | some i => match st.hp i with
      | some r => RImp m r p.2
      | none => False
    | none => False) ∧
  nodupO (s.hp.map fun p => m p.1) = true ∧ Nat.ble np s.nx = true ∧ st.gh = s.gh
structure Edge (np : Nat) (st : St) (s : LS) : Prop where
  ex : ∃ m : Nat → Option Nat, (∀ j, j < np → m j = some j) ∧ (∀ j, s.nx ≤ j → m j = none) ∧ EdgeM m np st s
/-- Names made out, each pair once. -/
noncomputable def forceP (l : List (Nat × Nat)) : List (Nat × Nat) → (List (Nat × Nat) → Prop) → Prop :=
  List.rec (motive := fun _ => List (Nat × Nat) → (List (Nat × Nat) → Prop) → Prop) (fun acc K => K acc)
    (fun p _ ih acc K => forceN p.1 fun a => match lookO acc a with
      | some _ => ih acc K
      | none => forceN p.2 fun b => ih (acc ++ [(a, b)]) K) l
theorem forceP_look {j : Nat} {x : Nat} {K : List (Nat × Nat) → Prop} : ∀ (l acc : List (Nat × Nat)), forceP l acc K → ∃ r, K r ∧ ∀ j x, lookO acc j = some x → lookO r j = some x
  | [], acc, h => ⟨acc, h, fun _ _ h => h⟩
  | (a, b) :: l, acc, h => by
    have h : forceN a fun a => match lookO acc a with
      | some _ => forceP l acc K
      | none => forceN b fun b => forceP l (acc ++ [(a, b)]) K := h
    rw [forceN_iff] at h
    revert h
    cases hl : lookO acc a with
    | some y => exact fun h => forceP_look (j := j) (x := x) l acc h
    | none =>
      intro h
      obtain ⟨r, h1, h2⟩ := forceP_look (j := j) (x := x) l _ ((forceN_iff b _).1 h)
      exact ⟨r, h1, fun j x hj => h2 j x (lookO_app hj)⟩
def capO (nx : Nat) (l : List (Nat × Nat)) (j : Nat) : Option Nat := bif Nat.blt j nx then lookO l j else none
/-- A state says what is told: by names that are found and made out once. -/
theorem Edge.fast {np : Nat} {st : St} {s : LS} (h : forceP (pins np ++ s.tm.flatMap fun p => pairA (st.tm p.1) p.2) (pins np) fun m => forceP (s.hp.flatMap (pairR st m)) m fun m => forceP (s.hp.flatMap (pairR st m)) m fun m => forceP (s.hp.map fun p => (p.1, p.1)) m fun m => EdgeM (capO s.nx m) np st s) : Edge np st s := by
  obtain ⟨m1, h1, k1⟩ := forceP_look (j := 0) (x := 0) _ _ h
  obtain ⟨m2, h2, k2⟩ := forceP_look (j := 0) (x := 0) _ _ h1
  obtain ⟨m3, h3, k3⟩ := forceP_look (j := 0) (x := 0) _ _ h2
  obtain ⟨m4, h4, k4⟩ := forceP_look (j := 0) (x := 0) _ _ h3
  refine ⟨capO s.nx m4, fun j hj => ?_, fun j hj => ?_, h4⟩
  · unfold capO
    rw [blt_iff.2 (Nat.lt_of_lt_of_le hj (Nat.le_of_ble_eq_true h4.2.2.2.1))]
    exact k4 _ _ (k3 _ _ (k2 _ _ (k1 _ _ (pins_look hj))))
  · unfold capO
    have : Nat.blt j s.nx = false := by
      cases hb : Nat.blt j s.nx with
      | false => rfl
      | true => have := blt_iff.1 hb; omega
    rw [this]; rfl
/-- Which bases an activation may run on, by the yields that there were; what yield does. -/
structure Fam (P : Program) (y : Option Yp) (np : Nat) where
  f : Option Nat → Base → Prop
  pin : ∀ g B, f g B → ∀ j, B.ρ0 j ≠ .un → j < np
  yld : ∀ yp, y = some yp → ∀ k B, f (some k) B → k < yp.N → ∀ Fr E st a W us, Sat B Fr E st a W → Reps E.S W (yp.Y k) us →
    ∃ fn tmps as body, (Instr.yield yp.l us.toArray).run P W = .ok (.round yp.l fn tmps as body) W ∧
      RoundIn Fence.wide 0 P yp.l fn tmps as body W fun e W' => ∃ b B', e = .returned (.bool b) ∧ f (bif b then some (k + 1) else none) B' ∧ Sat B' Fr E st a W'
def SatX {P : Program} {y : Option Yp} {np : Nat} (F : Fam P y np) (st : St) (a : Act) (W : World) : Prop := ∃ B E, F.f st.gh B ∧ Sat B (fun j => st.next ≤ j) E st a W
theorem nodupO_spec {α : Type} {f : Nat → Option Nat} : ∀ {l : List (Nat × α)} {i j : Nat} {x y : α} {q : Nat}, nodupO (l.map fun p => f p.1) = true → (i, x) ∈ l → (j, y) ∈ l → f i = some q → f j = some q → i = j
  | [], _, _, _, _, _, _, h, _, _, _ => by cases h
  | (a, z) :: l, i, j, x, y, q, hn, hi, hj, h1, h2 => by
    simp only [List.map_cons, nodupO, Bool.and_eq_true, List.all_eq_true] at hn
    have hall : ∀ (k : Nat) (w : α), (k, w) ∈ l → f a = some q → f k = some q → False := by
      intro k w hk ha hk2
      have := hn.1 (f k) (List.mem_map.2 ⟨(k, w), hk, rfl⟩)
      rw [ha, hk2] at this
      simp [Nat.beq_refl] at this
    rcases List.mem_cons.1 hi with e1 | hi <;> rcases List.mem_cons.1 hj with e2 | hj
    · cases e1; cases e2; rfl
    · cases e1; exact (hall _ _ hj h1 h2).elim
    · cases e2; exact (hall _ _ hi h2 h1).elim
    · exact nodupO_spec hn.2 hi hj h1 h2
theorem EdgeM.sat0 {m : Nat → Option Nat} {np : Nat} {B : Base} {E : Env} {st : St} {s : LS} {a : Act} {W : World} (h : EdgeM m np st s) (hm1 : ∀ j, j < np → m j = some j) (hm2 : ∀ j, s.nx ≤ j → m j = none) (hp : ∀ j, B.ρ0 j ≠ .un → j < np) (hlt : ∀ p ∈ s.tm, p.1 < st.n) (hs : Sat B (fun j => st.next ≤ j) E st a W) :
    Sat B (fun j => s.nx ≤ j) (E.ren m) (s.st st.n) a W := by
  obtain ⟨h1, h2, h3, hnp, _⟩ := h
  have h1 := allL_iff.1 h1
  have h2 := allL_iff.1 h2
  have hlive : ∀ i r, lookO s.hp i = some r → ∃ q r0, m i = some q ∧ st.hp q = some r0 ∧ RImp m r0 r := by
    intro i r hi
    have := h2 _ (lookO_mem _ _ _ hi)
    simp only at this
    split at this
    · rename_i q hq
      split at this
      · rename_i r0 hr0; exact ⟨q, r0, hq, hr0, this⟩
      · exact this.elim
    · exact this.elim
  have hρ : ∀ {i q}, m i = some q → (E.ren m).ρ i = E.ρ q := fun h => by simp [Env.ren, h]
  refine ⟨hs.size, fun i hi => ?_, fun i r hi => ?_, fun i j b hi hj h4 h5 => ?_, fun i hi => ?_, hs.sub, hs.sup, hs.s0, hs.df, hs.dn, hs.dd, hs.g, fun i hi => ?_⟩
  · rcases lookN_mem (d := AV.d .top) s.tm i with e | e
    · show RepA _ _ (lookN _ s.tm i) _
      rw [e]; trivial
    · exact (h1 _ e).rep (hs.tm i hi)
  · obtain ⟨q, r0, h4, h5, h6⟩ := hlive i r hi
    exact h6.sat h4 (hs.hp q r0 h5)
  · cases hi' : lookO s.hp i with
    | none => exact absurd hi' hi
    | some r =>
      cases hj' : lookO s.hp j with
      | none => exact absurd hj' hj
      | some r' =>
        obtain ⟨q, r0, q1, q2, _⟩ := hlive i r hi'
        obtain ⟨q', r0', q1', q2', _⟩ := hlive j r' hj'
        rw [hρ q1] at h4; rw [hρ q1'] at h5
        have : q = q' := hs.dist q q' b (by rw [q2]; simp) (by rw [q2']; simp) h4 h5
        subst this
        exact nodupO_spec h3 (lookO_mem _ _ _ hi') (lookO_mem _ _ _ hj') q1 q1'
  · have : m i = none := hm2 i hi
    simp [Env.ren, this]
  · rw [hρ (hm1 i (hp i hi))]; exact hs.r0 i hi
theorem Edge.sat {P : Program} {y : Option Yp} {np : Nat} {F : Fam P y np} {st : St} {s : LS} {a : Act} {W : World} (h : Edge np st s) (hlt : ∀ p ∈ s.tm, p.1 < st.n) (hs : SatX F st a W) : SatX F (s.st st.n) a W := by
  obtain ⟨B, E, hf, hs⟩ := hs
  obtain ⟨m, h1, h2, h⟩ := h.ex
  exact ⟨B, _, (show F.f s.gh B from h.2.2.2.2 ▸ hf), h.sat0 h1 h2 (F.pin _ B hf) hlt hs⟩
/-! ### Code -/
structure Lp (np : Nat) (st : St) (body : St → (Exit → St → Prop) → Prop) (Q : Exit → St → Prop) : Prop where
  ex : ∃ (ι : Type) (S : ι → LS) (μ : ι → Nat) (i0 : ι), (∀ i, ∀ p ∈ (S i).tm, p.1 < st.n) ∧ Edge np st (S i0) ∧ ∀ i, body ((S i).st st.n) fun e st' => match e with
    | .normal => st'.n = st.n ∧ ∃ i', Edge np st' (S i') ∧ μ i' < μ i
    | e => Q e st'
structure Ct (np : Nat) (st : St) (body : (Exit → St → Prop) → Prop) (rest : St → Prop) (Q : Exit → St → Prop) : Prop where
  ex : ∃ (ι : Type) (S : ι → LS), (∀ i, ∀ p ∈ (S i).tm, p.1 < st.n) ∧ (body fun e st' => match e with
    | .normal => st'.n = st.n ∧ ∃ i', Edge np st' (S i')
    | e => Q e st') ∧ ∀ i, rest ((S i).st st.n)
def firstR : Code → Option Nat
  | .region id _ _ => some id
  | .seq x _ => firstR x
  | .block _ c => firstR c
  | .loop c => firstR c
  | .scope c => firstR c
  | _ => none
def isCut (cuts : List Nat) (c : Code) : Bool := match firstR c with
  | some i => cuts.any (Nat.beq i)
  | none => false
/-- A function that yields: handed args, yield, and what it has captured it yields Y 0, Y 1, .. (N of them; as long as it is asked to). -/
def Seq (P : Program) (g : Nat) (A C : List DV) (N : Nat) (Y : Nat → List DV) : Prop :=
  Ent P g ∧ ∀ (S : Nat → Prop) (w : World) (vs cs : List Value) (l : Nat) (F : Fam P (some ⟨l, N, Y⟩) 0) (B0 : Base), (∀ b, S b → b < w.heap.size) → Reps S w A vs → Reps S w C cs →
    F.f (some 0) B0 → (∀ b, B0.ow b ↔ w.heap.size ≤ b) → B0.S0 = S → B0.G w → (∀ id, B0.ρ0 id = .un) →
    CallsIn Fence.wide 0 P g (vs ++ [Value.func (.yield l) #[] #[]] ++ cs).toArray w fun e w' => ∃ v g' B, e = .returned v ∧ F.f g' B ∧ B.G w' ∧ (g' = none ∨ g' = some N)
def seqOf : AV → Option (Nat × List AV × List AV)
  | .fn g n m f c => some (g, (List.range n).map f, (List.range m).map c)
  | .d (.fn g n m f c) => some (g, (List.range n).map (fun j => .d (f j)), (List.range m).map fun j => .d (c j))
  | _ => none
/-- All names of a slot are below n. -/
def namesLt (n : Nat) : AV → Bool
  | .d _ => true
  | .ref i _ => Nat.blt i n
  | .el i _ _ _ => Nat.blt i n
  | .ms i _ _ _ => Nat.blt i n
  | .ag m f => (List.range m).all fun j => namesLt n (f j)
  | .fn _ a b f c => ((List.range a).all fun j => namesLt n (f j)) && (List.range b).all fun j => namesLt n (c j)
  | .mp i => Nat.blt i n
  | .tp m f => (List.range m).all fun j => namesLt n (f j)
  | .sub i _ _ => Nat.blt i n
  | .stp i => Nat.blt i n
def putAll (st : St) : List Nat → List DV → St
  | p :: ps, d :: ds => putAll (st.put (some p) (.d d)) ps ds
  | _, _ => st
/-- A range over a function: what is handed to it; what is told of the memories after k rounds (of the slots: the same throughout; their names are below np'). -/
structure Rg (P : Program) (np : Nat) (st : St) (f : AV) (ps : List Nat) (round : Nat → St → (Exit → St → Prop) → Prop) (Q : Exit → St → Prop) : Prop where
  ex : ∃ (np' : Nat) (tms : List (Nat × AV)) (g : Nat) (A C : List AV) (N : Nat) (Y : Nat → List DV) (ι : Type) (R : ι → Nat × List (Nat × Res)) (ix : ι → Nat) (i0 : ι),
    seqOf f = some (g, A, C) ∧ okDVs st (A ++ C) ∧ Seq P g (A.map (toDV fuel st.hp)) (C.map (toDV fuel st.hp)) N Y ∧
    (∀ p ∈ tms, p.1 < st.n) ∧ (∀ p ∈ tms, namesLt np' p.2 = true) ∧ np ≤ np' ∧ (∀ k, k < N → (Y k).length = ps.length) ∧ (∀ p ∈ ps, p < st.n) ∧
    Edge np (st.frzs (reachs st (A ++ C))) ⟨(R i0).1, tms, (R i0).2, st.gh⟩ ∧ (∀ i, np' ≤ (R i).1) ∧ ix i0 = 0 ∧
    (∀ i, ix i < N → round np' (putAll ((⟨(R i).1, tms, (R i).2, some 0⟩ : LS).st st.n) ps (Y (ix i))) fun e st' => match e with
      | .normal => st'.gh = some 0 ∧ ∃ i', ix i' = ix i + 1 ∧ Edge np' st' ⟨(R i').1, [], (R i').2, some 0⟩
      | .exit id => ∃ r : Nat × List (Nat × Res), Edge np' st' ⟨r.1, [], r.2, some 0⟩ ∧ Q (.exit id) ((⟨r.1, tms, r.2, st.gh⟩ : LS).st st.n)
      | .ret => ∃ r : Nat × List (Nat × Res), Edge np' st' ⟨r.1, [], r.2, some 0⟩ ∧ Q .ret ((⟨r.1, tms, r.2, st.gh⟩ : LS).st st.n)
      | _ => False) ∧
    (∀ i, ix i = N → Q .normal ((⟨(R i).1, tms, (R i).2, st.gh⟩ : LS).st st.n))
section
variable (P : Program) (T : Nat → Option TI) (cuts : List Nat)
/-- y: the function yields; inr: within a round of a range over a function. -/
noncomputable def ex : Bool → Option Yp → Nat → Code → St → (Exit → St → Prop) → Prop
  | _, _, _, .skip, st, Q => Q .normal st
  | _, y, _, .region _ ops draw, st, Q => runOps P T y (match draw with | true => some (chkC ops) | false => none) ops.toList st.next (zipI 0 ops.toList) [] st fun st' => forceS { st' with next := st.next + ops.size } (Q .normal)
  | r, y, np, .seq c d, st, Q => match isCut cuts d with
    | true => Ct np st (fun Q' => ex r y np c st Q') (fun st => ex r y np d st Q) Q
    | false => ex r y np c st fun e st' => match e with
      | .normal => ex r y np d st' Q
      | e => Q e st'
  | r, y, np, .cond c d e, st, Q => match st.ev c with
    | .d (.v (.bool b)) => Sp b (ex r y np d st Q) (ex r y np e st Q)
    | _ => False
  | r, y, np, .block id c, st, Q => ex r y np c st fun e st' => match e with
    | .exit i => (match Nat.beq i id with
      | true => Q .normal st'
      | false => Q (.exit i) st')
    | e => Q e st'
  | r, y, np, .loop c, st, Q => Lp np st (fun st Q' => ex r y np c st Q') Q
  | false, _, np, .rangeFunc f ps as body, st, Q => Rg P np st (st.ev f) ps.toList (fun np' st1 Q' => ex true none np' as st1 fun e st2 => match e with
    | .normal => ex true none np' body st2 Q'
    | _ => False) Q
  | _, _, _, .exit id, st, Q => Q (.exit id) st
  | _, _, _, .label _, st, Q => Q .normal st
  | r, y, np, .scope c, st, Q => ex r y np c st fun e st' => match e with
    | .goto _ => False
    | e => Q e st'
  | _, _, _, .ret, st, Q => Q .ret st
  | _, _, _, _, _, _ => False
end
section
variable {P : Program} {T : Nat → Option TI} {cuts : List Nat} {y : Option Yp} {np : Nat}
theorem wpIn_loop_ix {F : Fence} {n : Nat} {P : Program} {Q : Exit → Act → World → Prop} {a : Act} {w : World} {c : Code} {ι : Type} (I : ι → Act → World → Prop) (μ : ι → Nat) (i0 : ι) (h₀ : I i0 a w)
    (round : ∀ i a w, I i a w → c.wpIn F n P (Exit.then (fun a' w' => ∃ i', I i' a' w' ∧ μ i' < μ i) Q) a w) : (Code.loop c).wpIn F n P Q a w := by
  intro b k cs hro hb hr
  have key : ∀ j i a w, μ i = j → I i a w →
      ∃ e a' w', Q e a' w' ∧ ArrivesIn (Machine.fenced P F) P (lone (b.atR a (.code c :: .inLoop c :: k)) cs w) b k cs e a' w' := by
    intro j
    induction j using Nat.strongRecOn with
    | _ j ih =>
      intro i a w hn hI
      obtain ⟨e, a₁, w₁, hq, harr⟩ := round i a w hI b (.inLoop c :: k) cs hro hb hr
      cases e with
      | normal =>
        obtain ⟨i', hI₁, hlt⟩ := hq
        obtain ⟨e₂, a₂, w₂, hq₂, harr₂⟩ := ih (μ i') (hn ▸ hlt) i' a₁ w₁ rfl hI₁
        exact ⟨e₂, a₂, w₂, hq₂, .of_steps (StepsIn.trans harr (.one (fenced_calm hb hr rfl) stepR_inLoop)) harr₂⟩
      | exit id => exact ⟨_, a₁, w₁, hq, .pass (x := .inLoop c) rfl (fun _ _ => .inl (by simp)) harr⟩
      | goto l => exact ⟨_, a₁, w₁, hq, .pass (x := .inLoop c) rfl (fun _ _ => .inl (by simp)) harr⟩
      | ret => exact ⟨_, a₁, w₁, hq, .pass (x := .inLoop c) rfl (fun _ _ => .inl (by simp)) harr⟩
      | panic ch => exact ⟨_, a₁, w₁, hq, .pass (x := .inLoop c) rfl (fun _ _ => .inl (by simp)) harr⟩
      | outgrown => exact ⟨_, a₁, w₁, hq, .pass (x := .inLoop c) rfl (fun _ _ => .inl (by simp)) harr⟩
  obtain ⟨e, a', w', hq, harr⟩ := key _ i0 a w rfl h₀
  exact ⟨e, a', w', hq, .of_steps (.one (fenced_calm hb hr rfl) stepR_loop) harr⟩
theorem Sat.gh {B : Base} {Fr : Nat → Prop} {E : Env} {st : St} {a : Act} {W : World} (h : Sat B Fr E st a W) (g : Option Nat) : Sat B Fr E { st with gh := g } a W :=
  ⟨h.size, h.tm, h.hp, h.dist, h.fr, h.sub, h.sup, h.s0, h.df, h.dn, h.dd, h.g, h.r0⟩
theorem Sat.next {B : Base} {Fr : Nat → Prop} {E : Env} {st : St} {a : Act} {W : World} (h : Sat B Fr E st a W) (n : Nat) : Sat B Fr E { st with next := n } a W :=
  ⟨h.size, h.tm, h.hp, h.dist, h.fr, h.sub, h.sup, h.s0, h.df, h.dn, h.dd, h.g, h.r0⟩
theorem roundIn_any {ro : Option Nat} {n l fn : Nat} {tmps : Array Value} {as body : Code} {W : World} {R : Ending → World → Prop} (h : RoundIn Fence.wide 0 P l fn tmps as body W R) : RoundIn (Fr0 ro) n P l fn tmps as body W R :=
  ⟨trivial, fun c cs _ => h.2 c cs (room_wide _)⟩
theorem frzs_gh (st : St) : ∀ l : List Nat, (st.frzs l).gh = st.gh
  | [] => rfl
  | id :: l => by
    show ((st.frz id).frzs l).gh = _
    rw [frzs_gh]
    unfold St.frz
    split <;> rfl
theorem runOps_sound (hT : TsOk P T) {F : Fam P y np} {ops : Array Oper} {ol : List Oper} (hol : ol = ops.toList) {base : Nat} {ro : Option Nat} {n : Nat} {Q : Exit → Act → World → Prop} {K : St → Prop} : ∀ (l : List (Nat × Oper)) (tr : List Tr) (st : St) (done : List Nat) (B : Base) (E : Env) (a : Act) (W : World),
    runOps P T y none ol base l tr st K → F.f st.gh B → Sat B (frd base done) E st a W → (∀ p ∈ l, ops[p.1]? = some p.2) → (l.map (·.1)).Nodup → (∀ p ∈ l, p.1 ∉ done) →
    (∀ st' B' E' a' W', K st' → F.f st'.gh B' → Sat B' (frd base ((l.map (·.1)).reverse ++ done)) E' st' a' W' → Q .normal a' W') → wpOpsIn (Fr0 ro) n P ops Q (l.map (·.1)) a W
  | [], tr, st, done, B, E, a, W, hr, hf, hs, _, _, _, hq => hq st B E a W hr hf hs
  | (i, o) :: l, tr, st, done, B, E, a, W, hr, hf, hs, h1, h2, h3, hq => by
    rw [List.map_cons, wpOpsIn_cons]
    simp only [List.map_cons, List.nodup_cons] at h2
    have hi : ops[i]? = some o := h1 (i, o) (List.mem_cons_self ..)
    have hd : i ∉ done := h3 (i, o) (List.mem_cons_self ..)
    have next : ∀ (tr' : List Tr) (s : St) (B' : Base) (E' : Env) (a' : Act) (W' : World), runOps P T y none ol base l tr' s K → F.f s.gh B' → Sat B' (frd base (i :: done)) E' s a' W' → wpOpsIn (Fr0 ro) n P ops Q (l.map (·.1)) a' W' := by
      intro tr' s B' E' a' W' hr' hf' hs'
      refine runOps_sound hT hol l tr' s (i :: done) B' E' a' W' hr' hf' hs' (fun p hp => h1 p (List.mem_cons_of_mem _ hp)) h2.2 (fun p hp => ?_) fun st2 B2 E2 a2 W2 k1 k2 k3 => hq st2 B2 E2 a2 W2 k1 k2 (by simpa using k3)
      simp only [List.mem_cons, not_or]
      exact ⟨fun e => h2.1 (e ▸ List.mem_map_of_mem (f := (·.1)) hp), h3 p (List.mem_cons_of_mem _ hp)⟩
    have step : ∀ {r s} (tr' : List Tr), One P T ol base i o st r s → s.gh = st.gh → runOps P T y none ol base l tr' s K → wpOpIn (Fr0 ro) n P ops Q i (wpOpsIn (Fr0 ro) n P ops Q (l.map (·.1))) a W := by
      intro r s tr' hone hgh hr'
      exact one_sound hT hs hol hi hd hone fun E' a' W' hs' _ => next tr' s B E' a' W' hr' (hgh ▸ hf) hs'
    unfold runOps at hr
    split at hr
    · exact hr.elim
    · rename_i hw
      simp only [chk] at hr
      exact step tr (.skip hw) (put_gh ..) ((forceS_iff ..).1 hr)
    · rename_i hw
      split at hr
      · split at hr
        · rename_i u args hyo
          split at hr
          · rename_i yp k hC hgh
            obtain ⟨⟨rfl, hok, hk, him⟩, ht, hff⟩ := hr
            unfold wpOpIn
            rw [hi]
            simp only
            rw [wanted_sound hs hol hw]
            simp only [if_true]
            unfold yieldOf at hyo
            split at hyo
            · rename_i fo cargs ctys ho
              split at hyo
              · rename_i u' hu'
                cases hyo
                have hue := hs.ev fo
                rw [hu'] at hue
                have hue : a.eval fo = .func (.yield yp.l) #[] #[] := hue
                obtain ⟨E1, hs1, hev1, hr1, _, _⟩ := hs.frzs (reachs st (cargs.toList.map st.ev))
                have hreps : Reps E1.S W (yp.Y k) (cargs.toList.map a.eval) := Reps.imp him.imps (reps_list hs hev1.s _ _ hok (fun id hid b hb => hr1 id hid (by
                  obtain ⟨x, _, hx⟩ := List.mem_flatMap.1 hid
                  exact reach_live _ _ hx) b hb) (by simp) fun j hj => by
                    simp only [List.length_map, Array.length_toList] at hj
                    simp only [List.getD_eq_getElem?_getD, List.getElem?_map, Array.getElem?_toList, Array.getElem?_eq_getElem hj, Option.map_some, Option.getD_some]
                    exact hs.ev _)
                rw [hgh] at hf
                obtain ⟨fn, tmps, as, body, hy, hround⟩ := F.yld yp rfl k B hf hk _ E1 _ a W _ hs1 hreps
                refine ⟨fun _ _ => trivial, ?_⟩
                rw [Oper.semAt_eq _ _ _ (by rw [ho]; simp)]
                have hrun : (execOp a.eval o).run P W = .ok (.round yp.l fn tmps as body) W := by
                  simp only [execOp, ho, resolve, hue, Deferred.ofValue, invoke, Sem.run_bind, Sem.run_pure, Result.andThen_ok]
                  have : #[] ++ cargs.map a.eval = (cargs.toList.map a.eval).toArray := by rw [Array.empty_append, ← Array.toList_map, Array.toArray_toList]
                  rw [this]; exact hy
                rw [hrun]
                refine And.intro (fun hd => by cases hd) ?_
                refine (roundIn_any hround).mono ?_
                rintro e W' ⟨b, B', rfl, hf', hs'⟩
                have hs2 : Sat B' (frd base (i :: done)) E1 ((yst st (cargs.toList.map st.ev) (bif b then some (k + 1) else none)).put o.dst (.d (.v (.bool b)))) (a.put o.dst (.bool b)) W' :=
                  ((hs'.weak fun j hj => (⟨hj.1, fun q hq => hj.2 q (List.mem_cons_of_mem _ hq)⟩ : frd base done j)).gh _).put o.dst rfl
                have hf2 : F.f ((yst st (cargs.toList.map st.ev) (bif b then some (k + 1) else none)).put o.dst (.d (.v (.bool b)))).gh B' := by rw [put_gh]; exact hf'
                cases b with
                | true => exact next tr _ B' E1 _ W' ((forceS_iff ..).1 ht) hf2 hs2
                | false => exact next tr _ B' E1 _ W' ((forceS_iff ..).1 hff) hf2 hs2
              · cases hyo
            · cases hyo
          · exact hr.elim
        · obtain ⟨r, hr⟩ := hr.ex
          unfold fin at hr
          split at hr
          · exact hr.elim
          · rename_i c x s hst
            have h5 := hr.r hr.c
            simp only [chk] at h5
            obtain ⟨hb, h6⟩ := (alt_iff ..).1 h5
            exact step tr (.run r c x s hw hst hr.c hb) (by rw [put_gh]; exact step_gh hst) ((forceS_iff ..).1 h6)
      · split at hr
        · rename_i id kt f seen hnx
          unfold nextOf at hnx
          split at hnx
          · rename_i yo ho
            split at hnx
            · rename_i id' hyo
              split at hnx
              · rename_i kt' f' seen' cur hid
                cases hnx
                have hrep := hs.ev yo
                rw [hyo] at hrep
                have hweak : ∀ {s : St} {a' : Act} {W' : World}, Sat B (frd base done) E s a' W' → Sat B (frd base (i :: done)) E s a' W' := fun h => h.weak fun j hj => ⟨hj.1, fun q hq => hj.2 q (List.mem_cons_of_mem _ hq)⟩
                unfold wpOpIn
                rw [hi]
                simp only
                rw [wanted_sound hs hol hw]
                simp only [if_true]
                rcases next_sound (P := P) hs hrep hid o.type with ⟨h4, h5⟩ | ⟨k, x, W', h4, h5, h6, h7, h8⟩
                · refine made_wp (by rw [ho]; simp) (v := .tuple #[.bool false]) (W' := W) (by simp only [execOp, ho, Sem.run_bind, h4, Result.andThen_ok, Sem.run_pure]) (.inl rfl) ?_
                  refine next tr _ B E _ W ((forceS_iff ..).1 (hr.e h5)) (by rw [put_gh]; exact hf) ((hweak hs).put o.dst ?_)
                  refine ⟨_, rfl, rfl, fun j hj => ?_⟩
                  obtain rfl : j = 0 := by omega
                  rfl
                · refine made_wp (by rw [ho]; simp) (v := .tuple #[.bool true, keyV kt k, .int .i64 x]) (W' := W') (by simp only [execOp, ho, Sem.run_bind, h7, Result.andThen_ok, Sem.run_pure]) (.inl rfl) ?_
                  refine next tr _ B E _ W' ((forceS_iff ..).1 (allK_iff.1 hr.s k h6 x h4 h5)) (by rw [put_gh]; exact hf) ((hweak h8).put o.dst ?_)
                  refine ⟨_, rfl, rfl, fun j hj => ?_⟩
                  match j, hj with
                  | 0, _ => rfl
                  | 1, _ => exact keyD_rep kt k h6
                  | 2, _ => rfl
              · cases hnx
            · cases hnx
          · cases hnx
        · split at hr
          · rename_i m bb hnl
            unfold nilOf at hnl
            split at hnl
            · rename_i bop bt yo bt' ho
              split at hnl
              · rename_i tt kk m' ff hyo
                split at hnl
                · rename_i te tz ts tb tq tm ht
                  have hrep := hs.ev yo
                  rw [hyo] at hrep
                  obtain ⟨aa, cap, hval, hcap, _, hnone, _⟩ := hrep
                  have hweak : Sat B (frd base (i :: done)) E st a W := hs.weak fun j hj => ⟨hj.1, fun q hq => hj.2 q (List.mem_cons_of_mem _ hq)⟩
                  have hk := hT bt _ ht
                  have heq : (Op.equal bt (a.eval yo) (.slice none 0 0)).run P W = .ok aa.isNone W := by
                    rw [hval, show Op.equal bt = Op.equalIn (9999 + 1) bt from rfl, Op.equalIn]
                    simp only [Sem.run_bind, hk.und, Result.andThen_ok]
                    cases aa with
                    | none => simp only [Option.map_none, Option.isNone_none, Sem.run_pure]
                    | some z => simp only [Option.map_some, Option.isNone_some, Sem.run_pure]
                  have hg : (eqGuard bop bt yo (.const (.slice none 0 0)) (a.eval yo) (.slice none 0 0)).run P W = .ok () W := by
                    rw [hval]
                    unfold eqGuard
                    split <;> rfl
                  have hev : ∀ v, a.eval (.const v) = v := fun _ => rfl
                  have key : ∀ b : Bool, (binOp bop bt (a.eval yo) (.slice none 0 0)).run P W = .ok (.bool b) W → runOps P T y none ol base l tr (st.put o.dst (.d (.v (.bool b)))) K → wpOpIn (Fr0 ro) n P ops Q i (wpOpsIn (Fr0 ro) n P ops Q (l.map (·.1))) a W := by
                    intro b hb hK
                    unfold wpOpIn
                    rw [hi]
                    simp only
                    rw [wanted_sound hs hol hw]
                    simp only [if_true]
                    refine made_wp (by rw [ho]; simp) (v := .bool b) (W' := W) (by simp only [execOp, ho, hev, Sem.run_bind, hg, hb, Result.andThen_ok, Sem.run_pure]) (.inl rfl) ?_
                    exact next tr _ B E _ W hK (by rw [put_gh]; exact hf) (hweak.put o.dst rfl)
                  have hn0 : aa.isNone = true → m' = 0 := by
                    intro he
                    have := hnone (Option.isNone_iff_eq_none.1 he)
                    omega
                  split at hnl
                  · cases hnl
                    have hb : (binOp .eql bt (a.eval yo) (.slice none 0 0)).run P W = .ok (.bool aa.isNone) W := by
                      rw [hval] at heq ⊢
                      simp only [binOp, heq, Sem.run_bind, Result.andThen_ok, Sem.run_pure]
                    cases hA : aa.isNone with
                    | true => exact key true (by rw [hb, hA]) ((forceS_iff ..).1 (hr.t (hn0 hA)))
                    | false => exact key false (by rw [hb, hA]) ((forceS_iff ..).1 hr.f)
                  · cases hnl
                    have hb : (binOp .neq bt (a.eval yo) (.slice none 0 0)).run P W = .ok (.bool (!aa.isNone)) W := by
                      rw [hval] at heq ⊢
                      simp only [binOp, heq, Sem.run_bind, Result.andThen_ok, Sem.run_pure]
                    cases hA : aa.isNone with
                    | true => exact key false (by rw [hb, hA]; rfl) ((forceS_iff ..).1 (hr.t (hn0 hA)))
                    | false => exact key true (by rw [hb, hA]; rfl) ((forceS_iff ..).1 hr.f)
                  · cases hnl
                · cases hnl
              · cases hnl
            · cases hnl
          · split at hr
            · rename_i id e k off m1 f1 c1 m2 g1 hap
              have hF : frd base done (base + i) := ⟨Nat.le_add_right _ _, fun q hq e => hd ((show i = q by omega) ▸ hq)⟩
              have hfw : ∀ j, frd base (i :: done) j → frd base done j ∧ j ≠ base + i := fun j hj => ⟨⟨hj.1, fun q hq => hj.2 q (List.mem_cons_of_mem _ hq)⟩, hj.2 i (List.mem_cons_self ..)⟩
              obtain ⟨o', hh', ho', hmade⟩ := apO_sound (i := base + i) hT hs hF (ρ := a.eval) hs.ev o hap hr.ok
              have hK : forceS ((apS st (base + i) id e k o' m1 m2 hh').put o.dst (.ms (base + i) k o' (m1 + m2))) fun s => runOps P T y none ol base l tr s K := by
                rcases ho' with ⟨rfl, rfl⟩ | ⟨rfl, rfl⟩
                · exact hr.z hr.ok
                · exact hr.o hr.ok
              obtain ⟨E', r', v, W', hrun, h1, h2, h3⟩ := hmade
              unfold wpOpIn
              rw [hi]
              simp only
              rw [wanted_sound hs hol hw]
              simp only [if_true]
              refine made_wp (apO_call hap) hrun h1 ?_
              refine next tr _ B E' _ W' ((forceS_iff ..).1 hK) (by rw [put_gh]; exact hf) ((h2.weak hfw).put o.dst h3)
            · unfold fin at hr
              split at hr
              · exact hr.elim
              · rename_i c x s hst
                obtain ⟨hc, h5⟩ := (obl_iff fun ht => isT_sound ht hst).1 hr
                simp only [chk] at h5
                obtain ⟨hb, h6⟩ := (alt_iff ..).1 h5
                exact step tr (.run (.dv .top) c x s hw hst hc hb) (by rw [put_gh]; exact step_gh hst) ((forceS_iff ..).1 h6)
theorem region_sound (hT : TsOk P T) (hm : P.follows .mixedOrders = true) {F : Fam P y np} {ro : Option Nat} {n : Nat} {id : Nat} {ops : Array Oper} {draw : Bool} {st : St} {Q : Exit → St → Prop} {r : Bool} (h : ex P T cuts r y np (.region id ops draw) st Q)
    {R : Exit → Act → World → Prop} {a : Act} {W : World} (hs : SatX F st a W) (hq : ∀ e st' a' W', Q e st' → SatX F st' a' W' → R e a' W') : (Code.region id ops draw).wpIn (Fr0 ro) n P R a W := by
  obtain ⟨B, E, hf, hs⟩ := hs
  have hs0 : Sat B (frd st.next []) E st a W := hs.weak fun j hj => hj.1
  have hlast : ∀ (st' : St) (B' : Base) (done : List Nat) E' a' W', (∀ k ∈ done, k < ops.size) → forceS { st' with next := st.next + ops.size } (Q .normal) → F.f st'.gh B' → Sat B' (frd st.next done) E' st' a' W' → R .normal a' W' := by
    intro st' B' done E' a' W' hdn hK hf' h1
    refine hq .normal _ a' W' ((forceS_iff ..).1 hK) ⟨B', E', hf', ?_⟩
    exact (h1.weak (Fr' := fun j => st.next + ops.size ≤ j) fun j hj => ⟨by omega, fun k hk => by have := hdn k hk; omega⟩).next _
  cases draw with
  | true =>
    obtain ⟨st', hrun, hK⟩ := runOps_run _ _ _ _ h
    exact draw_sound hT hm hrun hs0 fun E' a' W' h1 h2 => hlast st' B _ E' a' W' (fun k hk => List.mem_range.1 hk) hK (hrun.gh ▸ hf) h1
  | false =>
    refine wpIn_region ?_
    have e : List.range ops.size = (zipI 0 ops.toList).map (·.1) := by rw [zipI_map, List.range_eq_range', Array.length_toList]
    rw [e]
    refine runOps_sound hT rfl _ _ _ [] B E a W h hf hs0 (fun p hp => ?_) ?_ (fun p hp => by simp) fun st' B' E' a' W' k1 k2 k3 => hlast st' B' _ E' a' W' ?_ k1 k2 k3
    · have := (zipI_get _ _ _ hp).2; simpa using this
    · rw [← e]; exact List.nodup_range
    · intro k hk; rw [← e] at hk; simpa using hk
end
end Go.Px
end

/-! PxY -/
noncomputable section
namespace Go.Px
open Go Go.RowKit
theorem Stp.weak {o o' : Nat → Prop} {W W' : World} (h : Stp o W W') (hw : ∀ b, b < W.heap.size → o b → o' b) : Stp o' W W' :=
  ⟨h.os, h.tape, h.output, h.size, fun k hk hn => h.block k hk fun ho => hn (hw k hk ho), h.sh⟩
theorem Stp.put {o : Nat → Prop} {W : World} {p : Nat} {x : Obj} (ho : o p) (hnc : ∀ c T, W.heap[p]? ≠ some (Obj.cells c T (0, 0))) : Stp o W (W.putObj p x) :=
  ⟨rfl, rfl, rfl, by rw [World.putObj_size]; exact Nat.le_refl _, fun k _ hk => World.putObj_heap_other fun e => hk (e ▸ ho), fun b c T hb => ⟨c, (World.putObj_heap_other fun e => hnc c T (by rw [← e]; exact hb)).trans hb, rfl⟩⟩
theorem Ev.trans {E E1 E2 : Env} {W W1 W2 : World} (h : Ev E W E1 W1) (k : Ev E1 W1 E2 W2) : Ev E W E2 W2 :=
  ⟨fun b hb => k.s b (h.s b hb), fun b hb => (k.k b (h.s b hb)).trans (h.k b hb), fun id hid => (k.r id (by rw [h.r id hid]; exact hid)).trans (h.r id hid), fun b c T hb => by
    obtain ⟨c1, h1, h2⟩ := h.sh b c T hb
    obtain ⟨c2, h3, h4⟩ := k.sh b c1 T h1
    exact ⟨c2, h3, h4.trans h2⟩⟩
/-- A block that is no cells changes; the base may tell of it. -/
theorem Sat.putNC {B B' : Base} {Fr : Nat → Prop} {E : Env} {st : St} {a : Act} {W : World} (hB : B'.ow = B.ow ∧ B'.S0 = B.S0 ∧ B'.ρ0 = B.ρ0) (h : Sat B Fr E st a W) {p : Nat} {x : Obj}
    (hnm : ∀ o, W.heap[p]? = some o → isMem o = false) (hD : p ∉ E.D) (hS : ¬ E.S p) (hg : B'.G (W.putObj p x)) : Sat B' Fr E st a (W.putObj p x) := by
  obtain ⟨b1, b2, b3⟩ := hB
  have hnc : ∀ c T, W.heap[p]? ≠ some (Obj.cells c T (0, 0)) := fun c T e => by have := hnm _ e; cases this
  have hoth : ∀ k, k ≠ p → (W.putObj p x).heap[k]? = W.heap[k]? := fun k hk => World.putObj_heap_other hk
  have hev : Ev E W E (W.putObj p x) := ⟨fun _ h => h, fun b hb => hoth b fun e => hS (e ▸ hb), fun _ _ => rfl, fun b c T hb => ⟨c, (hoth b fun e => hnc c T (e ▸ hb)).trans hb, rfl⟩⟩
  have hown : ∀ mt b, Own B E mt b → Own B' E mt b := by
    intro mt b ho
    unfold Own at *
    rw [b1]; exact ho
  have hR : ∀ id r, SatR B E W id r → SatR B' E (W.putObj p x) id r := by
    intro id r hr
    have hr' := hr.ev hev (fun b hb => hoth b fun e => by
      obtain ⟨o, hc, hm⟩ := at_not_deferred hr hb
      rw [hnm o (e ▸ hc)] at hm; cases hm) (fun _ _ _ hn => hn)
    cases r with
    | cs mt n f => obtain ⟨b, c, T, k1, k2, k3, k4, k5⟩ := hr'; exact ⟨b, c, T, k1, k2, k3, hown _ _ k4, k5⟩
    | row mt T k n f =>
      rcases hr' with k | ⟨b, c, k1, k2, k3, k4, k5⟩
      · exact .inl k
      · exact .inr ⟨b, c, k1, k2, k3, hown _ _ k4, k5⟩
    | mp mt kt m => obtain ⟨b, es, c, k1, k2, k4, k5⟩ := hr'; exact ⟨b, es, c, k1, k2, hown _ _ k4, k5⟩
    | it mt kt m seen cur => obtain ⟨b, r, es, c, sn, k1, k2, k4, k5⟩ := hr'; exact ⟨b, r, es, c, sn, k1, k2, hown _ _ k4, k5⟩
    | me mt kt m l born => obtain ⟨b, es, c, k1, k2, k4, k5⟩ := hr'; exact ⟨b, es, c, k1, k2, hown _ _ k4, k5⟩
  exact ⟨h.size, fun i hi => (h.tm i hi).ev hev, fun id r hid => hR id r (h.hp id r hid), h.dist, h.fr, fun b hb => h.sub b (b2 ▸ hb), fun b hb => by rw [World.putObj_size, b1, b2]; exact h.sup b hb,
    fun b hb => by rw [World.putObj_size, b1]; exact h.s0 b (b2 ▸ hb), h.df, h.dn, fun D hD' => by
      obtain ⟨d1, d2, d3⟩ := h.dd D hD'
      exact ⟨b1 ▸ d1, d2, (hoth D fun e => hD (e ▸ hD')).trans d3⟩, hg, fun id hid => by rw [b3] at hid ⊢; exact h.r0 id hid⟩
theorem frzs_n (st : St) : ∀ l : List Nat, (st.frzs l).n = st.n
  | [] => rfl
  | id :: l => by
    show ((st.frz id).frzs l).n = _
    rw [frzs_n]
    unfold St.frz
    split <;> rfl
theorem frzs_next (st : St) : ∀ l : List Nat, (st.frzs l).next = st.next
  | [] => rfl
  | id :: l => by
    show ((st.frz id).frzs l).next = _
    rw [frzs_next]
    unfold St.frz
    split <;> rfl
theorem okDVs_app {st : St} : ∀ {x z : List AV}, okDVs st (x ++ z) → okDVs st x ∧ okDVs st z
  | [], _, h => ⟨trivial, h⟩
  | _ :: _, _, h => ⟨⟨h.1, (okDVs_app h.2).1⟩, (okDVs_app h.2).2⟩
theorem seqOf_run {E : Env} {W : World} {f : AV} {u : Value} (hu : RepA E W f u) {g : Nat} {A C : List AV} (h : seqOf f = some (g, A, C)) : ∃ fs cs : Array Value, u = .func (.func g) fs cs ∧ A.length = fs.toList.length ∧ C.length = cs.toList.length ∧
    (∀ j, j < A.length → RepA E W (A.getD j (.d .top)) (fs.toList.getD j undef)) ∧ ∀ j, j < C.length → RepA E W (C.getD j (.d .top)) (cs.toList.getD j undef) := by
  unfold seqOf at h
  split at h
  · rename_i n m f' c'
    cases h
    obtain ⟨fs, cs, rfl, h1, h2, h3, h4⟩ := hu
    refine ⟨fs, cs, rfl, by simp [h1], by simp [h2], fun j hj => ?_, fun j hj => ?_⟩
    · simp only [List.length_map, List.length_range] at hj
      rw [getD_range _ _ _ _ hj]
      simpa [List.getD_eq_getElem?_getD, Array.getD_eq_getD_getElem?] using h3 j hj
    · simp only [List.length_map, List.length_range] at hj
      rw [getD_range _ _ _ _ hj]
      simpa [List.getD_eq_getElem?_getD, Array.getD_eq_getD_getElem?] using h4 j hj
  · rename_i n m f' c'
    cases h
    obtain ⟨fs, cs, rfl, h1, h2, h3, h4⟩ := hu
    refine ⟨fs, cs, rfl, by simp [h1], by simp [h2], fun j hj => ?_, fun j hj => ?_⟩
    · simp only [List.length_map, List.length_range] at hj
      rw [getD_range _ _ _ _ hj]
      have := h3 j hj
      simpa [RepA, Rep, List.getD_eq_getElem?_getD, Array.getD_eq_getD_getElem?] using this
    · simp only [List.length_map, List.length_range] at hj
      rw [getD_range _ _ _ _ hj]
      have := h4 j hj
      simpa [RepA, Rep, List.getD_eq_getElem?_getD, Array.getD_eq_getD_getElem?] using this
  · cases h
theorem namesLt_rep {E : Env} {W : World} {n : Nat} {ρ : Nat → Loc} (hρ : ∀ j, j < n → ρ j = E.ρ j) : ∀ {x : AV} {u : Value}, namesLt n x = true → RepA E W x u → RepA { E with ρ := ρ } W x u := by
  intro x
  induction x with
  | d y => exact fun _ h => h
  | ref i o => rintro u h ⟨b, hb, rfl⟩; exact ⟨b, (hρ i (blt_iff.1 h)).trans hb, rfl⟩
  | el i k j o => rintro u h ⟨b, hb, rfl⟩; exact ⟨b, (hρ i (blt_iff.1 h)).trans hb, rfl⟩
  | ms i k o m =>
    rintro u h (⟨hb, h1⟩ | ⟨b, o', cap, c, T, hb, h1⟩)
    · exact .inl ⟨(hρ i (blt_iff.1 h)).trans hb, h1⟩
    · exact .inr ⟨b, o', cap, c, T, (hρ i (blt_iff.1 h)).trans hb, h1⟩
  | mp i => rintro u h ⟨b, hb, rfl⟩; exact ⟨b, (hρ i (blt_iff.1 h)).trans hb, rfl⟩
  | sub i k j => rintro u h ⟨b, hb, rfl⟩; exact ⟨b, (hρ i (blt_iff.1 h)).trans hb, rfl⟩
  | stp i => rintro u h ⟨b, hb, rfl⟩; exact ⟨b, (hρ i (blt_iff.1 h)).trans hb, rfl⟩
  | tp m f ih =>
    rintro u h ⟨cs, rfl, hs, hc⟩
    have h : ((List.range m).all fun j => namesLt n (f j)) = true := h
    rw [List.all_eq_true] at h
    exact ⟨cs, rfl, hs, fun j hj => ih j (h j (List.mem_range.2 hj)) (hc j hj)⟩
  | ag m f ih =>
    rintro u h ⟨cs, rfl, hs, hc⟩
    have h : ((List.range m).all fun j => namesLt n (f j)) = true := h
    rw [List.all_eq_true] at h
    exact ⟨cs, rfl, hs, fun j hj => ⟨ih j (h j (List.mem_range.2 hj)) (hc j hj).1, (hc j hj).2⟩⟩
  | fn g a b f c ih1 ih2 =>
    rintro u h ⟨fs, cs, rfl, h1, h2, h3, h4⟩
    have h : (((List.range a).all fun j => namesLt n (f j)) && (List.range b).all fun j => namesLt n (c j)) = true := h
    rw [Bool.and_eq_true, List.all_eq_true, List.all_eq_true] at h
    exact ⟨fs, cs, rfl, h1, h2, fun j hj => ih1 j (h.1 j (List.mem_range.2 hj)) (h3 j hj), fun j hj => ih2 j (h.2 j (List.mem_range.2 hj)) (h4 j hj)⟩
theorem Reps.length {S : Nat → Prop} {w : World} : ∀ {xs : List DV} {us : List Value}, Reps S w xs us → xs.length = us.length
  | [], [], _ => rfl
  | _ :: _, _ :: _, h => by simp [Reps.length h.2]
theorem putAll_n : ∀ (st : St) (ps : List Nat) (ds : List DV), (putAll st ps ds).n = st.n
  | st, [], ds => by cases ds <;> rfl
  | st, p :: ps, [] => rfl
  | st, p :: ps, d :: ds => by rw [putAll, putAll_n]; rfl
theorem putAll_hp : ∀ (st : St) (ps : List Nat) (ds : List DV), (putAll st ps ds).hp = st.hp ∧ (putAll st ps ds).next = st.next ∧ (putAll st ps ds).gh = st.gh
  | st, [], ds => by cases ds <;> exact ⟨rfl, rfl, rfl⟩
  | st, p :: ps, [] => ⟨rfl, rfl, rfl⟩
  | st, p :: ps, d :: ds => by rw [putAll]; exact putAll_hp _ ps ds
/-- The parameters of a round are set. -/
theorem Sat.putAll {B : Base} {Fr : Nat → Prop} {E : Env} {W : World} : ∀ {ps : List Nat} {ds : List DV} {us : List Value} {st : St} {tmps : Array Value} {df : List Deferred}, Sat B Fr E st ⟨tmps, df⟩ W → Reps E.S W ds us →
    Sat B Fr E (putAll st ps ds) ⟨(ps.zip us).foldl (fun t p => t.setIfInBounds p.1 p.2) tmps, df⟩ W
  | [], ds, us, st, tmps, df, h, _ => by cases ds <;> exact h
  | p :: ps, [], [], st, tmps, df, h, _ => h
  | p :: ps, d :: ds, u :: us, st, tmps, df, h, hr => by
    have := h.put (some p) (x := .d d) (u := u) hr.1
    exact Sat.putAll (ps := ps) this hr.2
section
variable {P : Program} {T : Nat → Option TI} {cuts : List Nat} {y : Option Yp} {np : Nat}
/-- What the rounds of a loop are about: fixed throughout. -/
structure Lc where
  P : Program
  B : Base
  W : World
  W1 : World
  E1 : Env
  Ec : Env
  D0 : List Nat
  n : Nat
  np' : Nat
  tms : List (Nat × AV)
  gh : Option Nat
  a1 : Act
  l : Nat
  D : Nat
def Lc.st (X : Lc) (r : Nat × List (Nat × Res)) : St := (⟨r.1, X.tms, r.2, X.gh⟩ : LS).st X.n
/-- Between two rounds: the activation that holds the loop. -/
structure Inv0 (X : Lc) (r : Nat × List (Nat × Res)) (E' : Env) (fo : Nat → Prop) (w : World) : Prop where
  sat : Sat X.B (fun j => r.1 ≤ j) E' (X.st r) X.a1 w
  dD : E'.D = X.D :: X.D0
  ev : Ev X.Ec X.W E' w
  fob : ∀ b, fo b → X.W1.heap.size ≤ b ∧ b < w.heap.size
  sz : X.W1.heap.size ≤ w.heap.size
  sS : ∀ b, E'.S b → b < X.W.heap.size ∨ fo b
  sl : ∀ id b, (X.st r).hp id ≠ none → E'.ρ id = .at b → b < X.W.heap.size ∨ fo b
/-- The facts of the start. -/
structure LcOk (X : Lc) : Prop where
  hl : X.l = X.W.heap.size + 1
  hD : X.D = X.W.heap.size
  hW1 : X.W1.heap.size = X.W.heap.size + 2
  how : ∀ b, X.W.heap.size ≤ b → X.B.ow b
  hS1 : ∀ b, X.E1.S b → b < X.W.heap.size
  hEc : X.Ec.S = X.E1.S
  hD0 : ∀ d, d ∈ X.D0 → d < X.W.heap.size
  hsup : ∀ b, X.E1.S b → X.B.S0 b ∨ X.B.ow b
  tm : ∀ i, i < X.n → RepA X.Ec X.W (lookN (.d .top) X.tms i) (X.a1.tmps.getD i undef)
  sz : X.a1.tmps.size = X.n
  df : X.a1.defers = (X.D :: X.D0).map mark
  dn : (X.D :: X.D0).Nodup
  dow : ∀ d, d ∈ X.D0 → X.B.ow d
  r0 : ∀ id, X.B.ρ0 id ≠ .un → X.Ec.ρ id = X.B.ρ0 id
theorem Inv0.stp {X : Lc} (hX : LcOk X) {r : Nat × List (Nat × Res)} {E' : Env} {fo : Nat → Prop} {w w' : World} (h : Inv0 X r E' fo w) (hs : Stp (fun b => X.W1.heap.size ≤ b ∧ ¬ fo b) w w') : Inv0 X r E' fo w' := by
  have hno : ∀ b, (b < X.W.heap.size ∨ fo b) → ¬ (X.W1.heap.size ≤ b ∧ ¬ fo b) := by
    rintro b (h1 | h1) ⟨h2, h3⟩
    · have := hX.hW1; omega
    · exact h3 h1
  have hS : ∀ b, E'.S b → w'.heap[b]? = w.heap[b]? := fun b hb => hs.block b (h.sat.S_lt b hb) (hno b (h.sS b hb))
  have hev : Ev E' w E' w' := ⟨fun _ h => h, hS, fun _ _ => rfl, hs.sh⟩
  have hDlt : ∀ d, d ∈ E'.D → d < X.W.heap.size + 1 := fun d hd => by
    rw [h.dD] at hd
    rcases List.mem_cons.1 hd with rfl | hd
    · rw [hX.hD]; omega
    · have := hX.hD0 d hd; omega
  have hDsame : ∀ d, d ∈ E'.D → w'.heap[d]? = w.heap[d]? := fun d hd => hs.block d (Array.getElem?_eq_some_iff.1 (h.sat.dd d hd).2.2).1 (fun ho => by
    have := hDlt d hd; have := hX.hW1; omega)
  refine ⟨h.sat.go hev (fun id b hi hb => hs.block b (h.sat.at_lt hi hb) (hno b (h.sl id b hi hb))) (fun _ _ _ _ _ hn => hn) (fun _ => rfl) (fun b hb => (h.sat.sup b hb).imp id fun x => ⟨x.1, Nat.lt_of_lt_of_le x.2 hs.size⟩) rfl
      (fun d hd => ⟨hDsame d hd, (h.sat.dd d hd).2.1⟩) (hs.weak fun b _ ho => hX.how b (by have := hX.hW1; omega)), h.dD, h.ev.trans hev, fun b hb => ⟨(h.fob b hb).1, Nat.lt_of_lt_of_le (h.fob b hb).2 hs.size⟩, Nat.le_trans h.sz hs.size, h.sS, h.sl⟩
/-- The base of a round. -/
def rBase (X : Lc) (w : World) (S : Nat → Prop) (ow : Nat → Prop) (hw : ∀ b, w.heap.size ≤ b → ow b) (hl : ¬ ow X.l) (hll : X.l < w.heap.size) (L : Obj) : Base :=
  ⟨ow, S, X.Ec.ρ, fun w' => Stp (fun b => ow b ∨ b = X.l) w w' ∧ w'.heap[X.l]? = some L,
    fun w1 w2 h1 h2 => ⟨h1.1.trans (h2.weak fun _ _ h => .inl h), (h2.block X.l (Nat.lt_of_lt_of_le hll h1.1.size) hl).trans h1.2⟩, fun w1 h1 b hb => hw b (Nat.le_trans h1.1.size hb)⟩
/-- Behind a round: its memories are those of the activation again, and what runs around it has kept its own. -/
theorem round_back {X : Lc} (hX : LcOk X) {r r' : Nat × List (Nat × Res)} {E' Ei Er : Env} {fo S0 : Nat → Prop} {w w3 : World} (h : Inv0 X r E' fo w) {L L' : Obj} (hLw : ∀ o, w.heap[X.l]? = some o → isMem o = false) (hL : isMem L = false) (hLd : L ≠ .deferred (some [])) (hLwd : w.heap[X.l]? ≠ some (.deferred (some [])))
    {ow : Nat → Prop} (how : ∀ b, ow b ↔ ((∃ id, (X.st r).hp id ≠ none ∧ E'.ρ id = .at b ∧ ¬ E'.S b) ∨ w.heap.size ≤ b)) {hw : ∀ b, w.heap.size ≤ b → ow b} {hl : ¬ ow X.l} {hll : X.l < w.heap.size}
    {Bi Bi' : Base} {Fri : Nat → Prop} {sti : St} {ai : Act} (hBi : (∀ b, Bi.ow b ↔ (X.W1.heap.size ≤ b ∧ ¬ fo b)) ∧ Bi.S0 = S0 ∧ ∀ id, Bi.ρ0 id = .un) (hS0 : ∀ b, S0 b → X.E1.S b ∨ fo b)
    (hsi : Sat Bi Fri Ei sti ai w) {st' : St} {a' : Act} (hs' : Sat (rBase X w (fun b => E'.S b ∨ Ei.S b) ow hw hl hll L) (fun j => st'.next ≤ j) Er st' a' w3) (hedge : Edge X.np' st' ⟨r'.1, [], r'.2, some 0⟩)
    (hnp : ∀ j, X.Ec.ρ j ≠ .un → j < X.np')
    (hBi' : (∀ b, Bi'.ow b ↔ (X.W1.heap.size ≤ b ∧ ¬ (fo b ∨ (w.heap.size ≤ b ∧ b < w3.heap.size) ∨ (Ei.S b ∧ X.W1.heap.size ≤ b)))) ∧ Bi'.S0 = Ei.S ∧ ∀ id, Bi'.ρ0 id = .un)
    (hg : ∀ E'', Inv0 X r' E'' (fun b => fo b ∨ (w.heap.size ≤ b ∧ b < w3.heap.size) ∨ (Ei.S b ∧ X.W1.heap.size ≤ b)) (w3.putObj X.l L') → (∀ b, Ei.S b → E''.S b) → Bi'.G (w3.putObj X.l L')) :
    Sat Bi' Fri Ei sti ai (w3.putObj X.l L') := by
  have hsz := hX.hW1
  have hll' := hX.hl
  have hstp : Stp (fun b => ow b ∨ b = X.l) w w3 := hs'.g.1
  have hheapl : w3.heap[X.l]? = some L := hs'.g.2
  have hL3 : ∀ c T, w3.heap[X.l]? ≠ some (Obj.cells c T (0, 0)) := fun c T e => by rw [hheapl] at e; cases e; cases hL
  have hstp4 : Stp (fun b => ow b ∨ b = X.l) w (w3.putObj X.l L') := hstp.trans (Stp.put (.inr rfl) hL3)
  have h4sz : (w3.putObj X.l L').heap.size = w3.heap.size := World.putObj_size
  -- what the round owns, and what it reads
  have howlive : ∀ b, ow b → b < w.heap.size → (b < X.W.heap.size ∨ fo b) ∧ X.B.ow b ∧ (∃ o, w.heap[b]? = some o ∧ isMem o = true) ∧ ¬ E'.S b := by
    intro b hb hlt
    rcases (how b).1 hb with ⟨id, h1, h2, h3⟩ | h1
    · refine ⟨h.sl id b h1 h2, ?_, ?_, h3⟩
      · cases hr : (X.st r).hp id with
        | none => exact absurd hr h1
        | some rr =>
          obtain ⟨mt, ho⟩ := at_own (h.sat.hp id rr hr) h2
          cases mt with
          | true => exact ho.2
          | false => exact absurd ho h3
      · cases hr : (X.st r).hp id with
        | none => exact absurd hr h1
        | some rr => exact at_not_deferred (h.sat.hp id rr hr) h2
    · omega
  have hEiS : ∀ b, Ei.S b → (X.E1.S b ∨ fo b) ∨ (X.W1.heap.size ≤ b ∧ ¬ fo b) := by
    intro b hb
    rcases hsi.sup b hb with h1 | h1
    · rw [hBi.2.1] at h1; exact .inl (hS0 b h1)
    · exact .inr ((hBi.1 b).1 h1.1)
  have hE1S : ∀ b, X.E1.S b → E'.S b := fun b hb => h.ev.s b (by rw [hX.hEc]; exact hb)
  have hSr : ∀ b, (E'.S b ∨ Ei.S b) → ¬ ow b ∧ b < w.heap.size ∧ b ≠ X.l := by
    intro b hb
    have hlt : b < w.heap.size := hb.elim (h.sat.S_lt b) (hsi.S_lt b)
    refine ⟨fun ho => ?_, hlt, fun e => ?_⟩
    · obtain ⟨k1, _, _, k4⟩ := howlive b ho hlt
      rcases hb with hb | hb
      · exact k4 hb
      · rcases hEiS b hb with (k | k) | k
        · exact k4 (hE1S b k)
        · have := hsi.s0
          have k5 := (hs'.s0 b (show E'.S b ∨ Ei.S b from .inr hb)).1
          exact k5 ho
        · rcases k1 with k1 | k1
          · omega
          · exact k.2 k1
    · subst e
      rcases hb with hb | hb
      · rcases h.sS _ hb with k | k
        · omega
        · have := (h.fob _ k).1; omega
      · rcases hEiS _ hb with (k | k) | k
        · have := hX.hS1 _ k; omega
        · have := (h.fob _ k).1; omega
        · omega
  have hkeep : ∀ b, (E'.S b ∨ Ei.S b) → (w3.putObj X.l L').heap[b]? = w.heap[b]? := fun b hb => by
    obtain ⟨k1, k2, k3⟩ := hSr b hb
    exact hstp4.block b k2 fun k => k.elim k1 k3
  obtain ⟨mE, hm1, hm2, hedge⟩ := hedge.ex
  have hsE := hedge.sat0 hm1 hm2 (B := rBase X w (fun b => E'.S b ∨ Ei.S b) ow hw hl hll L) (fun j hj => hnp j hj) (fun p hp => by cases hp) hs'
  -- the activation's own environment
  let E'' : Env := ⟨Er.S, (Er.ren mE).ρ, X.D :: X.D0⟩
  have hErS : ∀ b, (E'.S b ∨ Ei.S b) → Er.S b := fun b hb => hsE.sub b hb
  have hErsup : ∀ b, Er.S b → (E'.S b ∨ Ei.S b) ∨ (ow b ∧ b < w3.heap.size) := fun b hb => hsE.sup b hb
  have hEr_l : ¬ Er.S X.l := fun hb => by
    rcases hErsup _ hb with k | k
    · exact (hSr _ k).2.2 rfl
    · exact hl k.1
  have hDw : ∀ d, d ∈ X.D :: X.D0 → X.B.ow d ∧ ¬ E'.S d ∧ w.heap[d]? = some (.deferred (some [])) := fun d hd => h.sat.dd d (by rw [h.dD]; exact hd)
  have hDlt : ∀ d, d ∈ X.D :: X.D0 → d < X.W1.heap.size ∧ d ≠ X.l := fun d hd => by
    rcases List.mem_cons.1 hd with rfl | hd
    · rw [hX.hD]; constructor <;> omega
    · have := hX.hD0 d hd; constructor <;> omega
  have hDnow : ∀ d, d ∈ X.D :: X.D0 → ¬ ow d := fun d hd ho => by
    obtain ⟨_, _, ⟨o, hc, hm⟩, _⟩ := howlive d ho (by have := (hDlt d hd).1; have := h.sz; omega)
    rw [(hDw d hd).2.2] at hc; cases hc; cases hm
  have hev34 : Ev (Er.ren mE) w3 E'' (w3.putObj X.l L') := ⟨fun _ h => h, fun b hb => World.putObj_heap_other fun e => hEr_l (e ▸ hb), fun _ _ => rfl, (Stp.put (o := fun b => b = X.l) rfl hL3).sh⟩
  have howB : ∀ b, ow b → X.B.ow b := fun b hb => by
    rcases Nat.lt_or_ge b w.heap.size with k | k
    · exact (howlive b hb k).2.1
    · exact hX.how b (by have := h.sz; omega)
  have hEv : Ev X.Ec X.W E'' (w3.putObj X.l L') := by
    refine ⟨fun b hb => hErS b (.inl (h.ev.s b hb)), fun b hb => (hkeep b (.inl (h.ev.s b hb))).trans (h.ev.k b hb), fun id hid => hsE.r0 id hid, fun b c T hb => ?_⟩
    obtain ⟨c1, k1, k2⟩ := h.ev.sh b c T hb
    obtain ⟨c2, k3, k4⟩ := hstp4.sh b c1 T k1
    exact ⟨c2, k3, k4.trans k2⟩
  have hinv : Inv0 X r' E'' (fun b => fo b ∨ (w.heap.size ≤ b ∧ b < w3.heap.size) ∨ (Ei.S b ∧ X.W1.heap.size ≤ b)) (w3.putObj X.l L') := by
    have hsS : ∀ b, Er.S b → b < X.W.heap.size ∨ (fo b ∨ (w.heap.size ≤ b ∧ b < w3.heap.size) ∨ (Ei.S b ∧ X.W1.heap.size ≤ b)) := by
      intro b hb
      rcases hErsup b hb with (k | k) | k
      · exact (h.sS b k).imp id .inl
      · rcases hEiS b k with (k1 | k1) | k1
        · exact .inl (hX.hS1 b k1)
        · exact .inr (.inl k1)
        · exact .inr (.inr (.inr ⟨k, k1.1⟩))
      · rcases Nat.lt_or_ge b w.heap.size with k1 | k1
        · exact (howlive b k.1 k1).1.imp id .inl
        · exact .inr (.inr (.inl ⟨k1, k.2⟩))
    have hsat : Sat X.B (fun j => r'.1 ≤ j) E'' (X.st r') X.a1 (w3.putObj X.l L') := by
      refine ⟨hX.sz, fun i hi => (hX.tm i hi).ev hEv, fun id rr hid => ?_, hsE.dist, hsE.fr, fun b hb => hErS b (.inl (h.sat.sub b hb)), fun b hb => ?_, fun b hb => ⟨(h.sat.s0 b hb).1, by rw [h4sz]; exact Nat.lt_of_lt_of_le (h.sat.s0 b hb).2 hstp.size⟩, hX.df, hX.dn, fun d hd => ?_, ?_, fun id hid => ?_⟩
      · have hr0 := (hsE.hp id rr hid).ev hev34 (fun b hb => World.putObj_heap_other fun e => by
          obtain ⟨o, hc, hm⟩ := at_not_deferred (hsE.hp id rr hid) hb
          rw [e, hheapl] at hc; cases hc; rw [hL] at hm; cases hm) (fun _ _ _ hn => hn)
        have hown : ∀ mt b, Own (rBase X w (fun b => E'.S b ∨ Ei.S b) ow hw hl hll L) E'' mt b → Own X.B E'' mt b := by
          intro mt b ho
          cases mt with
          | true => exact ⟨ho.1, howB b ho.2⟩
          | false => exact ho
        cases rr with
        | cs mt n f => obtain ⟨b, c, T, k1, k2, k3, k4, k5⟩ := hr0; exact ⟨b, c, T, k1, k2, k3, hown _ _ k4, k5⟩
        | row mt T k n f =>
          rcases hr0 with k | ⟨b, c, k1, k2, k3, k4, k5⟩
          · exact .inl k
          · exact .inr ⟨b, c, k1, k2, k3, hown _ _ k4, k5⟩
        | mp mt kt m => obtain ⟨b, es, c, k1, k2, k4, k5⟩ := hr0; exact ⟨b, es, c, k1, k2, hown _ _ k4, k5⟩
        | it mt kt m seen cur => obtain ⟨b, r, es, c, sn, k1, k2, k4, k5⟩ := hr0; exact ⟨b, r, es, c, sn, k1, k2, hown _ _ k4, k5⟩
        | me mt kt m l born => obtain ⟨b, es, c, k1, k2, k4, k5⟩ := hr0; exact ⟨b, es, c, k1, k2, hown _ _ k4, k5⟩
      · rw [h4sz]
        have hlt : b < w3.heap.size := hsE.S_lt b hb
        rcases hErsup b hb with (k | k) | k
        · exact (h.sat.sup b k).imp id fun x => ⟨x.1, hlt⟩
        · rcases hEiS b k with (k1 | k1) | k1
          · exact (hX.hsup b k1).imp id fun x => ⟨x, hlt⟩
          · exact .inr ⟨hX.how b (by have := (h.fob b k1).1; omega), hlt⟩
          · exact .inr ⟨hX.how b (by omega), hlt⟩
        · exact .inr ⟨howB b k.1, hlt⟩
      · obtain ⟨k1, k2, k3⟩ := hDw d hd
        refine ⟨k1, fun hb => ?_, (hstp4.block d (Array.getElem?_eq_some_iff.1 k3).1 fun k => k.elim (hDnow d hd) (hDlt d hd).2).trans k3⟩
        rcases hErsup d hb with (k | k) | k
        · exact k2 k
        · rcases hEiS d k with (k4 | k4) | k4
          · exact k2 (hE1S d k4)
          · have := (h.fob d k4).1; have := (hDlt d hd).1; omega
          · have := (hDlt d hd).1; omega
        · exact hDnow d hd k.1
      · exact X.B.hG _ _ h.sat.g (hstp4.weak fun b _ k => k.elim (howB b) fun e => e ▸ hX.how _ (by omega))
      · have h1 := hX.r0 id hid
        have h2 : X.Ec.ρ id ≠ .un := by rw [h1]; exact hid
        exact (hsE.r0 id h2).trans h1
    refine ⟨hsat, rfl, hEv, fun b hb => ?_, by rw [h4sz]; exact Nat.le_trans h.sz hstp.size, hsS, fun id b hid hb => ?_⟩
    · rw [h4sz]
      have := h.sz
      have := hstp.size
      rcases hb with k | k | k
      · have := h.fob b k; omega
      · omega
      · have := hsi.S_lt b k.1; omega
    · cases hr : lookO r'.2 id with
      | none => exact absurd hr hid
      | some rr =>
        obtain ⟨mt, ho⟩ := at_own (hsE.hp id rr hr) hb
        have hlt := hsE.at_lt hid hb
        cases mt with
        | true =>
          rcases Nat.lt_or_ge b w.heap.size with k1 | k1
          · exact (howlive b ho.2 k1).1.imp (fun x => x) .inl
          · exact .inr (.inr (.inl ⟨k1, hlt⟩))
        | false => exact hsS b ho
  -- what runs around it
  have hblk : ∀ b, Bi.ow b → b < w.heap.size → (w3.putObj X.l L').heap[b]? = w.heap[b]? := fun b hb hlt => by
    have k := (hBi.1 b).1 hb
    refine hstp4.block b hlt fun k1 => ?_
    rcases k1 with k1 | k1
    · rcases (howlive b k1 hlt).1 with k2 | k2
      · omega
      · exact k.2 k2
    · omega
  have how'' : ∀ b, Bi.ow b → b < w.heap.size → ¬ Ei.S b → Bi'.ow b := fun b hb hlt hS => by
    have k := (hBi.1 b).1 hb
    rw [hBi'.1]
    refine ⟨k.1, ?_⟩
    rintro (k1 | k1 | k1)
    · exact k.2 k1
    · omega
    · exact hS k1.1
  have hevi : Ev Ei w Ei (w3.putObj X.l L') := ⟨fun _ h => h, fun b hb => hkeep b (.inr hb), fun _ _ => rfl, hstp4.sh⟩
  refine ⟨hsi.size, fun i hi => (hsi.tm i hi).ev hevi, fun id rr hid => ?_, hsi.dist, hsi.fr, fun b hb => by rw [hBi'.2.1] at hb; exact hb, fun b hb => .inl (by rw [hBi'.2.1]; exact hb), fun b hb => ?_, hsi.df, hsi.dn, fun d hd => ?_, hg E'' hinv (fun b hb => hErS b (.inr hb)), fun id hid => absurd (hBi'.2.2 id) hid⟩
  · have hr := hsi.hp id rr hid
    have hr0 := hr.ev hevi (fun b hb => by
      obtain ⟨mt, ho⟩ := at_own hr hb
      have hlt := hsi.at_lt (by rw [hid]; simp) hb
      cases mt with
      | true => exact hblk b ho.2 hlt
      | false => exact hkeep b (.inr ho)) (fun _ _ _ hn => hn)
    have hown : ∀ mt b, b < w.heap.size → Own Bi Ei mt b → Own Bi' Ei mt b := by
      intro mt b hlt ho
      cases mt with
      | true => exact ⟨ho.1, how'' b ho.2 hlt ho.1⟩
      | false => exact ho
    cases rr with
    | cs mt n f =>
      obtain ⟨b, c, T, k1, k2, k3, k4, k5⟩ := hr0
      exact ⟨b, c, T, k1, k2, k3, hown _ _ (hsi.at_lt (by rw [hid]; simp) k1) k4, k5⟩
    | row mt T k n f =>
      rcases hr0 with k | ⟨b, c, k1, k2, k3, k4, k5⟩
      · exact .inl k
      · exact .inr ⟨b, c, k1, k2, k3, hown _ _ (hsi.at_lt (by rw [hid]; simp) k1) k4, k5⟩
    | mp mt kt m => obtain ⟨b, es, c, k1, k2, k4, k5⟩ := hr0; exact ⟨b, es, c, k1, k2, hown _ _ (hsi.at_lt (by rw [hid]; simp) k1) k4, k5⟩
    | it mt kt m seen cur => obtain ⟨b, r, es, c, sn, k1, k2, k4, k5⟩ := hr0; exact ⟨b, r, es, c, sn, k1, k2, hown _ _ (hsi.at_lt (by rw [hid]; simp) k1) k4, k5⟩
    | me mt kt m l born => obtain ⟨b, es, c, k1, k2, k4, k5⟩ := hr0; exact ⟨b, es, c, k1, k2, hown _ _ (hsi.at_lt (by rw [hid]; simp) k1) k4, k5⟩
  · rw [hBi'.2.1] at hb
    have hlt := hsi.S_lt b hb
    refine ⟨fun ho => ?_, by rw [h4sz]; exact Nat.lt_of_lt_of_le hlt hstp.size⟩
    have k := (hBi'.1 b).1 ho
    exact k.2 (.inr (.inr ⟨hb, k.1⟩))
  · obtain ⟨d1, d2, d3⟩ := hsi.dd d hd
    have hlt := (Array.getElem?_eq_some_iff.1 d3).1
    exact ⟨how'' d d1 hlt d2, d2, (hblk d d1 hlt).trans d3⟩
/-- What the activation, the loop's record with it, is at between two rounds. -/
def J (X : Lc) (Q : Exit → St → Prop) {ι : Type} (R0 : ι → Nat × List (Nat × Res)) (ix : ι → Nat) (L0 : Loop) : Option Nat → Nat × List (Nat × Res) → Loop → Prop
  | some k, r, L => (∃ i, ix i = k ∧ r = R0 i) ∧ L = { L0 with state := .ready, pending := none }
  | none, r, L => (∃ id, Q (.exit id) (X.st r) ∧ L = { L0 with state := .done, pending := some (.exit id) }) ∨ (Q .ret (X.st r) ∧ L = { L0 with state := .done, pending := some .ret })
def InvC (X : Lc) (J : Option Nat → Nat × List (Nat × Res) → Loop → Prop) (g : Option Nat) (fo S0 : Nat → Prop) (w : World) : Prop :=
  ∃ r E' L, Inv0 X r E' fo w ∧ J g r L ∧ w.heap[X.l]? = some (.loop L) ∧ ∀ b, S0 b → E'.S b
def iBase (X : Lc) (hX : LcOk X) (J : Option Nat → Nat × List (Nat × Res) → Loop → Prop) (fo S0 : Nat → Prop) (g : Option Nat) : Base :=
  ⟨fun b => X.W1.heap.size ≤ b ∧ ¬ fo b, S0, fun _ => .un, InvC X J g fo S0, fun w w' ⟨r, E', L, h0, hJ, hl, hS⟩ hs =>
    ⟨r, E', L, h0.stp hX hs, hJ, (hs.block X.l (Array.getElem?_eq_some_iff.1 hl).1 (fun hk => by have := hX.hl; have := hX.hW1; omega)).trans hl, hS⟩,
   fun w ⟨_, _, _, h0, _⟩ b hb => ⟨Nat.le_trans h0.sz hb, fun hf => by have := (h0.fob b hf).2; omega⟩⟩
theorem round_sep {X : Lc} (hX : LcOk X) {r : Nat × List (Nat × Res)} {E' Ei : Env} {fo S0 : Nat → Prop} {w : World} (h : Inv0 X r E' fo w) (hS0 : ∀ b, S0 b → E'.S b) {Bi : Base} {Fri : Nat → Prop} {sti : St} {ai : Act}
    (hBi : (∀ b, Bi.ow b ↔ (X.W1.heap.size ≤ b ∧ ¬ fo b)) ∧ Bi.S0 = S0) (hsi : Sat Bi Fri Ei sti ai w) (b : Nat) (hb : E'.S b ∨ Ei.S b) :
    ¬ ((∃ id, (X.st r).hp id ≠ none ∧ E'.ρ id = .at b ∧ ¬ E'.S b) ∨ w.heap.size ≤ b) ∧ b < w.heap.size := by
  have hlt : b < w.heap.size := hb.elim (h.sat.S_lt b) (hsi.S_lt b)
  refine ⟨?_, hlt⟩
  rintro (⟨id, h1, h2, h3⟩ | h1)
  · rcases hb with hb | hb
    · exact h3 hb
    · rcases hsi.sup b hb with k | k
      · rw [hBi.2] at k; exact h3 (hS0 b k)
      · have k := (hBi.1 b).1 k.1
        have := hX.hW1
        rcases h.sl id b h1 h2 with k1 | k1
        · omega
        · exact k.2 k1
  · omega
theorem zip_fold (ps : Array Nat) (us : List Value) (t : Array Value) : (ps.zip us.toArray).foldl (fun tmps (p : Nat × Value) => match p with | (t, a) => tmps.setIfInBounds t a) t = (ps.toList.zip us).foldl (fun t p => t.setIfInBounds p.1 p.2) t := by
  rw [← Array.foldl_toList, Array.toList_zip]
theorem rg_sound {F : Fam P y np} {f : Operand} {ps : Array Nat} {as body : Code} {st : St} {Q : Exit → St → Prop}
    (ih1 : ∀ (np' : Nat) (F' : Fam P none np') (l : Nat) (st : St) (Q : Exit → St → Prop), ex P T cuts true none np' as st Q → ∀ (R : Exit → Act → World → Prop) (a : Act) (W : World), SatX F' st a W → (∀ e st' a' W', Q e st' → SatX F' st' a' W' → R e a' W') → as.wpIn (Fr0 (some l)) 0 P R a W)
    (ih2 : ∀ (np' : Nat) (F' : Fam P none np') (l : Nat) (st : St) (Q : Exit → St → Prop), ex P T cuts true none np' body st Q → ∀ (R : Exit → Act → World → Prop) (a : Act) (W : World), SatX F' st a W → (∀ e st' a' W', Q e st' → SatX F' st' a' W' → R e a' W') → body.wpIn (Fr0 (some l)) 0 P R a W)
    (h : ex P T cuts false y np (.rangeFunc f ps as body) st Q) {R : Exit → Act → World → Prop} {a : Act} {W : World} {n : Nat} (hs : SatX F st a W) (hq : ∀ e st' a' W', Q e st' → SatX F st' a' W' → R e a' W') : (Code.rangeFunc f ps as body).wpIn (Fr0 none) n P R a W := by
  obtain ⟨np', tms, g, A, C, N, Y, ι, R0, ix, i0, hseq, hok, hSeq, htl, hnl, hnp, hYl, hpl, hedge, hRn, hix0, hround, hend⟩ := h.ex
  obtain ⟨B, E, hf, hs⟩ := hs
  obtain ⟨E1, hs1, hev1, hr1, hρ1, _⟩ := hs.frzs (reachs st (A ++ C))
  obtain ⟨mE, hm1, hm2, hedge⟩ := hedge.ex
  have hs2 := hedge.sat0 hm1 hm2 (F.pin _ B hf) (fun p hp => by rw [frzs_n]; exact htl p hp) (by rw [frzs_next]; exact hs1)
  rw [frzs_n] at hs2
  obtain ⟨fs, cs, hfun, hAl, hCl, hAr, hCr⟩ := seqOf_run (hs.ev f) hseq
  obtain ⟨hokA, hokC⟩ := okDVs_app hok
  have hrA : Reps E1.S W (A.map (toDV fuel st.hp)) fs.toList := reps_list hs hev1.s A _ hokA (fun id hid b hb => hr1 id (by rw [reachs, List.flatMap_append]; exact List.mem_append_left _ hid) (by
    obtain ⟨x, _, hx⟩ := List.mem_flatMap.1 hid
    exact reach_live _ _ hx) b hb) hAl hAr
  have hrC : Reps E1.S W (C.map (toDV fuel st.hp)) cs.toList := reps_list hs hev1.s C _ hokC (fun id hid b hb => hr1 id (by rw [reachs, List.flatMap_append]; exact List.mem_append_right _ hid) (by
    obtain ⟨x, _, hx⟩ := List.mem_flatMap.1 hid
    exact reach_live _ _ hx) b hb) hCl hCr
  refine wpIn_rangeFunc fun fn _ => ?_
  -- the record
  let L0 : Loop := { state := .ready, pending := none, fn, tmps := a.tmps, params := ps, assign := as, body, defers := W.heap.size }
  let W1 : World := (W.alloc (.deferred (some []))).alloc (.loop L0)
  have hW1 : W1.heap.size = W.heap.size + 2 := by simp [W1, World.size_alloc]
  have hbel : Below W.heap.size W W1 := ((Below.refl _ W).alloc (Nat.le_refl _) _).alloc (by rw [World.size_alloc]; omega) _
  let E2 : Env := E1.ren mE
  let Ec : Env := { E2 with ρ := fun j => bif Nat.blt j np' then E2.ρ j else .un }
  let X : Lc := ⟨P, B, W, W1, E1, Ec, E.D, st.n, np', tms, st.gh, { a with defers := mark W.heap.size :: a.defers }, W.heap.size + 1, W.heap.size⟩
  have hE1D : E1.D.map mark = E.D.map mark := hs1.df.symm.trans hs.df
  have hmk : ∀ {x z : List Nat}, x.map mark = z.map mark → x = z := by
    intro x
    induction x with
    | nil => intro z h; cases z <;> first | rfl | cases h
    | cons i x ih => intro z h; cases z with
      | nil => cases h
      | cons j z =>
        simp only [List.map_cons, List.cons.injEq, mark, Deferred.mk.injEq, Target.collected.injEq, and_true] at h
        rw [h.1, ih h.2]
  have hE1D : E1.D = E.D := hmk hE1D
  have hX : LcOk X := by
    refine ⟨rfl, rfl, hW1, fun b hb => B.how W hs.g b hb, hs1.S_lt, rfl, fun d hd => (Array.getElem?_eq_some_iff.1 (hs.dd d hd).2.2).1, fun b hb => (hs1.sup b hb).imp (fun x => x) fun x => x.1, fun i hi => ?_, hs.size, ?_, ?_, fun d hd => (hs.dd d hd).1, fun id hid => ?_⟩
    · have := hs2.tm i hi
      have hnm : namesLt np' (lookN (.d .top) tms i) = true := by
        rcases lookN_mem (d := AV.d .top) tms i with e | e
        · rw [e]; rfl
        · exact hnl _ e
      exact namesLt_rep (E := E2) (ρ := Ec.ρ) (fun j hj => by show (bif Nat.blt j np' then E2.ρ j else .un) = _; rw [blt_iff.2 hj]; rfl) hnm this
    · show mark W.heap.size :: a.defers = _
      rw [hs.df]; rfl
    · refine List.nodup_cons.2 ⟨fun hd => ?_, hs.dn⟩
      exact absurd (Array.getElem?_eq_some_iff.1 (hs.dd _ hd).2.2).1 (Nat.lt_irrefl _)
    · have hj := F.pin _ B hf id hid
      show (bif Nat.blt id np' then E2.ρ id else .un) = _
      rw [blt_iff.2 (Nat.lt_of_lt_of_le hj hnp)]
      exact hs2.r0 id hid
  let JJ := J X Q R0 ix L0
  have hnpE : ∀ j, X.Ec.ρ j ≠ .un → j < np' := fun j hj => by
    have hj : (bif Nat.blt j np' then E2.ρ j else Loc.un) ≠ .un := hj
    cases hb : Nat.blt j np' with
    | true => exact blt_iff.1 hb
    | false => rw [hb] at hj; exact absurd rfl hj
  have hEcE2 : ∀ j, Ec.ρ j ≠ .un → Ec.ρ j = E2.ρ j := fun j hj => by
    show (bif Nat.blt j np' then E2.ρ j else .un) = _
    rw [blt_iff.2 (hnpE j hj)]; rfl
  have hl1 : W1.heap[W.heap.size + 1]? = some (.loop L0) := by
    have := World.alloc_heap_new (W.alloc (.deferred (some []))) (.loop L0)
    rwa [World.size_alloc] at this
  have hD1 : W1.heap[W.heap.size]? = some (.deferred (some [])) := by
    have h1 := World.alloc_heap_new W (.deferred (some []))
    have h2 : Below (W.heap.size + 1) (W.alloc (.deferred (some []))) W1 := (Below.refl _ _).alloc (by rw [World.size_alloc]; exact Nat.le_refl _) _
    exact (h2.block _ (by omega)).trans h1
  -- the start
  have hstart : InvC X JJ (some 0) (fun _ => False) E1.S W1 := by
    have hsb : Sat B (fun j => (R0 i0).1 ≤ j) E2 ((⟨(R0 i0).1, tms, (R0 i0).2, st.gh⟩ : LS).st st.n) a W1 := hs2.below hbel
    have hev : Ev E2 W1 { E2 with D := W.heap.size :: E.D } W1 := ⟨fun _ h => h, fun _ _ => rfl, fun _ _ => rfl, fun _ c _ h => ⟨c, h, rfl⟩⟩
    refine ⟨R0 i0, { E2 with D := W.heap.size :: E.D }, _, ⟨⟨hsb.size, fun i hi => (hsb.tm i hi).ev hev, fun id r hid => (hsb.hp id r hid).ev hev (fun _ _ => rfl) (fun _ _ _ hn => hn), hsb.dist, hsb.fr, hsb.sub, hsb.sup, hsb.s0, hX.df, hX.dn, fun d hd => ?_, hsb.g, hsb.r0⟩, rfl, ?_, fun b hb => hb.elim, Nat.le_refl _, fun b hb => .inl (hs1.S_lt b hb), fun id b hid hb => .inl (hs2.at_lt hid hb)⟩, ⟨⟨i0, hix0, rfl⟩, rfl⟩, hl1, fun b hb => hb⟩
    · rcases List.mem_cons.1 hd with rfl | hd
      · exact ⟨hX.how _ (Nat.le_refl _), fun hS => absurd (hs1.S_lt _ hS) (Nat.lt_irrefl _), hD1⟩
      · have hd1 : d ∈ E2.D := by show d ∈ E1.D; rw [hE1D]; exact hd
        exact hsb.dd d hd1
    · exact ⟨fun b hb => hb, fun b hb => hbel.block b (hs1.S_lt b hb), fun id hid => (hEcE2 id hid).symm, fun b c T hb => ⟨c, (hbel.block b (Array.getElem?_eq_some_iff.1 hb).1).trans hb, rfl⟩⟩
  -- what yield does
  let fam : Option Nat → Base → Prop := fun g' B' => ∃ fo S0, B' = iBase X hX JJ fo S0 g' ∧ ∀ b, S0 b → E1.S b ∨ fo b
  let Fi : Fam P (some ⟨W.heap.size + 1, N, Y⟩) 0 := ⟨fam, fun g' B' hB' j hj => by
      obtain ⟨fo, S0, rfl, _⟩ := hB'
      exact absurd rfl hj, by
      rintro yp hyp k B' ⟨fo, S0, rfl, hS0⟩ hk Fri Ei sti ai w us hsi hus
      cases hyp
      simp only at hk hus
      obtain ⟨r, E', L, h0, ⟨⟨i, hix, rfl⟩, rfl⟩, hlw, hS0'⟩ := hsi.g
      have hlw : w.heap[W.heap.size + 1]? = some (.loop L0) := hlw
      have hlen : us.length = ps.size := by rw [← hus.length, hYl k hk]; simp
      have hll : X.l < w.heap.size := (Array.getElem?_eq_some_iff.1 hlw).1
      have hsep := round_sep hX h0 hS0' (Bi := iBase X hX JJ fo S0 (some k)) ⟨fun _ => Iff.rfl, rfl⟩ hsi
      have hLnc : ∀ (L : Loop) c T, some (Obj.loop L) ≠ some (Obj.cells c T (0, 0)) := fun _ _ _ e => by cases e
      have hlow : ¬ ((∃ id, (X.st (R0 i)).hp id ≠ none ∧ E'.ρ id = .at X.l ∧ ¬ E'.S X.l) ∨ w.heap.size ≤ X.l) := by
        rintro (⟨id, k1, k2, _⟩ | k1)
        · cases hr : (X.st (R0 i)).hp id with
          | none => exact k1 hr
          | some rr =>
            obtain ⟨o, hc, hm⟩ := at_not_deferred (h0.sat.hp id rr hr) k2
            have hlw' : w.heap[X.l]? = some (.loop L0) := hlw
            rw [hlw'] at hc; cases hc; cases hm
        · omega
      let ow : Nat → Prop := fun b => (∃ id, (X.st (R0 i)).hp id ≠ none ∧ E'.ρ id = .at b ∧ ¬ E'.S b) ∨ w.heap.size ≤ b
      have how : ∀ b, w.heap.size ≤ b → ow b := fun b hb => .inr hb
      let rb : Obj → Base := fun L => rBase X w (fun b => E'.S b ∨ Ei.S b) ow how hlow hll L
      let Fr : Obj → Fam P none np' := fun L => ⟨fun _ B => B = rb L, fun _ B e j hj => by subst e; exact hnpE j hj, fun _ e => by cases e⟩
      refine ⟨fn, _, as, body, run_yield hlw (by simpa using hlen), roundIn_of_wpIn trivial ?_⟩
      let Er : Env := ⟨fun b => E'.S b ∨ Ei.S b, E'.ρ, []⟩
      have hevr : Ev E' w Er w := ⟨fun _ h => .inl h, fun _ _ => rfl, fun _ _ => rfl, fun _ c _ h => ⟨c, h, rfl⟩⟩
      have hsr0 : Sat (rb (.loop L0)) (fun j => (R0 i).1 ≤ j) Er ((⟨(R0 i).1, tms, (R0 i).2, some 0⟩ : LS).st st.n) ⟨a.tmps, []⟩ w := by
        refine ⟨hs.size, fun q hq => (h0.sat.tm q hq).ev hevr, fun id rr hid => ?_, h0.sat.dist, h0.sat.fr, fun b hb => hb, fun b hb => .inl hb, fun b hb => hsep b hb, rfl, List.nodup_nil, fun d hd => (by cases hd), ⟨Stp.refl _ _, hlw⟩, fun id hid => h0.ev.r id hid⟩
        have hr := h0.sat.hp id rr hid
        have hne : (X.st (R0 i)).hp id ≠ none := by rw [show (X.st (R0 i)).hp id = some rr from hid]; simp
        have hr0 := hr.ev hevr (fun _ _ => rfl) (fun b hb hlt hn hS => (hsep b hS).1 (.inl ⟨id, hne, hb, hn⟩))
        have hown : ∀ mt b, E'.ρ id = .at b → Own X.B Er mt b → Own (rb (.loop L0)) Er mt b := by
          intro mt b hb ho
          cases mt with
          | true => exact ⟨ho.1, .inl ⟨id, hne, hb, fun hS => ho.1 (.inl hS)⟩⟩
          | false => exact ho
        cases rr with
        | cs mt n f => obtain ⟨b, c, T, k1, k2, k3, k4, k5⟩ := hr0; exact ⟨b, c, T, k1, k2, k3, hown _ _ k1 k4, k5⟩
        | row mt T k n f =>
          rcases hr0 with k | ⟨b, c, k1, k2, k3, k4, k5⟩
          · exact .inl k
          · exact .inr ⟨b, c, k1, k2, k3, hown _ _ k1 k4, k5⟩
        | mp mt kt m => obtain ⟨b, es, c, k1, k2, k4, k5⟩ := hr0; exact ⟨b, es, c, k1, k2, hown _ _ k1 k4, k5⟩
        | it mt kt m seen cur => obtain ⟨b, r, es, c, sn, k1, k2, k4, k5⟩ := hr0; exact ⟨b, r, es, c, sn, k1, k2, hown _ _ k1 k4, k5⟩
        | me mt kt m l born => obtain ⟨b, es, c, k1, k2, k4, k5⟩ := hr0; exact ⟨b, es, c, k1, k2, hown _ _ k1 k4, k5⟩
      have husr : Reps Er.S w (Y k) us := Reps.mono (fun b hb => .inr hb) (fun _ _ => rfl) hus
      have hsr := Sat.putAll (ps := ps.toList) hsr0 husr
      rw [← zip_fold] at hsr
      have hSl : ∀ {Bx : Base} {Frx : Nat → Prop} {Ex : Env} {stx : St} {ax : Act} {wx : World} {L : Obj}, Bx = rb L → Sat Bx Frx Ex stx ax wx → ¬ Ex.S X.l := by
        intro Bx Frx Ex stx ax wx L hBx hsx hS
        subst hBx
        rcases hsx.sup _ hS with k1 | k1
        · have k2 := hsep _ k1
          rcases k1 with k1 | k1
          · rcases h0.sS _ k1 with k3 | k3
            · have : X.l = X.W.heap.size + 1 := rfl; omega
            · have := (h0.fob _ k3).1; have : X.l = X.W.heap.size + 1 := rfl; have := hX.hW1; omega
          · rcases hsi.sup _ k1 with k3 | k3
            · rcases hS0 _ k3 with k4 | k4
              · have := hs1.S_lt _ k4; have : X.l = W.heap.size + 1 := rfl; omega
              · have := (h0.fob _ k4).1; have : X.l = X.W.heap.size + 1 := rfl; have := hX.hW1; omega
            · have k4 : X.W1.heap.size ≤ X.l ∧ ¬ fo X.l := k3.1
              have : X.l = X.W.heap.size + 1 := rfl; have := hX.hW1; omega
        · exact hlow k1.1
      have hrd := hround i (by rw [hix]; exact hk)
      rw [hix] at hrd
      refine ih1 np' (Fr (.loop L0)) (W.heap.size + 1) _ _ hrd _ _ _ ⟨rb (.loop L0), Er, rfl, hsr.weak fun j hj => by rw [(putAll_hp _ _ _).2.1] at hj; exact hj⟩ ?_
      intro e st1 a1 w1 hq1 hsat1
      cases e <;> first | exact hq1.elim | skip
      obtain ⟨B1, Ea, hB1, hsa⟩ := hsat1
      have hB1 : B1 = rb (.loop L0) := hB1
      have hSl1 := hSl hB1 hsa
      subst hB1
      have hl1w : w1.heap[W.heap.size + 1]? = some (.loop L0) := hsa.g.2
      refine ⟨_, run_beginRound hl1w rfl, ?_⟩
      have hsb : Sat (rb (.loop { L0 with state := .busy })) (fun j => st1.next ≤ j) Ea st1 a1 (w1.putObj (W.heap.size + 1) (.loop { L0 with state := .busy })) := by
        refine Sat.putNC (B := rb (.loop L0)) (B' := rb (.loop { L0 with state := .busy })) (p := W.heap.size + 1) (x := .loop { L0 with state := .busy }) ⟨rfl, rfl, rfl⟩ hsa (fun o e => by rw [hl1w] at e; cases e; rfl) (fun hd => ?_) hSl1 ⟨hsa.g.1.trans (Stp.put (.inr rfl) fun c T e => by rw [hl1w] at e; cases e), World.putObj_heap_same (Array.getElem?_eq_some_iff.1 hl1w).1⟩
        have := (hsa.dd _ hd).2.2
        rw [hl1w] at this; cases this
      refine ih2 np' (Fr (.loop { L0 with state := .busy })) (W.heap.size + 1) _ _ hq1 _ _ _ ⟨_, Ea, rfl, hsb⟩ ?_
      intro e st3 a3 w3 hq3 hsat3
      obtain ⟨B3, E3, hB3, hs3⟩ := hsat3
      have hB3 : B3 = rb (.loop { L0 with state := .busy }) := hB3
      subst hB3
      have hl3w : w3.heap[W.heap.size + 1]? = some (.loop { L0 with state := .busy }) := hs3.g.2
      have back : ∀ (g' : Option Nat) (r' : Nat × List (Nat × Res)) (L' : Loop), Edge np' st3 ⟨r'.1, [], r'.2, some 0⟩ → JJ g' r' L' →
          ∃ B'', fam g' B'' ∧ Sat B'' Fri Ei sti ai (w3.putObj (W.heap.size + 1) (.loop L')) := by
        intro g' r' L' hed hJ
        refine ⟨iBase X hX JJ (fun b => fo b ∨ (w.heap.size ≤ b ∧ b < w3.heap.size) ∨ (Ei.S b ∧ X.W1.heap.size ≤ b)) Ei.S g', ⟨_, _, rfl, fun b hb => ?_⟩, ?_⟩
        · rcases hsi.sup b hb with k1 | k1
          · exact (hS0 b k1).imp (fun x => x) .inl
          · exact .inr (.inr (.inr ⟨hb, k1.1.1⟩))
        · exact round_back hX h0 (L := .loop { L0 with state := .busy }) (L' := .loop L') (S0 := S0) (ow := ow) (hw := how) (hl := hlow) (hll := hll) (fun o e => by
              have hlw' : w.heap[X.l]? = some (.loop L0) := hlw
              rw [hlw'] at e; cases e; rfl) rfl (fun e => by cases e) (fun e => by
              have hlw' : w.heap[X.l]? = some (.loop L0) := hlw
              rw [hlw'] at e; cases e) (fun _ => Iff.rfl) (Bi := iBase X hX JJ fo S0 (some k)) ⟨fun _ => Iff.rfl, rfl, fun _ => rfl⟩ hS0 hsi hs3 hed hnpE ⟨fun _ => Iff.rfl, rfl, fun _ => rfl⟩
            fun E'' hinv hS => ⟨r', E'', L', hinv, hJ, World.putObj_heap_same (Array.getElem?_eq_some_iff.1 hl3w).1, hS⟩
      cases e with
      | normal =>
        obtain ⟨_, i', hix', hed⟩ := hq3
        obtain ⟨B'', k1, k2⟩ := back (some (k + 1)) (R0 i') { L0 with state := .ready, pending := none } hed ⟨⟨i', hix', rfl⟩, rfl⟩
        exact ⟨_, _, run_endRound none hl3w, true, B'', rfl, k1, k2⟩
      | exit id =>
        obtain ⟨r', hed, hQ⟩ := hq3
        obtain ⟨B'', k1, k2⟩ := back none r' { L0 with state := .done, pending := some (.exit id) } hed (.inl ⟨id, hQ, rfl⟩)
        exact ⟨_, _, run_endRound (some (.exit id)) hl3w, false, B'', rfl, k1, k2⟩
      | ret =>
        obtain ⟨r', hed, hQ⟩ := hq3
        obtain ⟨B'', k1, k2⟩ := back none r' { L0 with state := .done, pending := some .ret } hed (.inr ⟨hQ, rfl⟩)
        exact ⟨_, _, run_endRound (some .ret) hl3w, false, B'', rfl, k1, k2⟩
      | goto l => exact hq3.elim
      | panic ch => exact hq3.elim
      | outgrown => exact hq3.elim⟩
  have hcall := hSeq.2 E1.S W1 fs.toList cs.toList (W.heap.size + 1) Fi (iBase X hX JJ (fun _ => False) E1.S (some 0)) (fun b hb => by have := hs1.S_lt b hb; omega)
    (hrA.mono (fun _ h => h) fun b hb => hbel.block b (hs1.S_lt b hb)) (hrC.mono (fun _ h => h) fun b hb => hbel.block b (hs1.S_lt b hb)) ⟨_, _, rfl, fun b hb => .inl hb⟩ (fun b => ⟨fun h => h.1, fun h => ⟨h, fun h => h⟩⟩) rfl hstart (fun _ => rfl)
  refine ⟨W.heap.size + 1, [mark W.heap.size], W1, { target := .fn (.func g) cs, args := fs ++ #[.func (.yield (W.heap.size + 1)) #[] #[]] }, W1, g, (fs.toList ++ [Value.func (.yield (W.heap.size + 1)) #[] #[]] ++ cs.toList).toArray, W1,
    run_enterLoop_outer fn a.tmps ps as body, ?_, fun _ _ => trivial, ?_, fun hd => (by cases hd), ?_⟩
  · simp only [resolve, rangeCall, hfun, Deferred.ofValue, Sem.run_pure, List.map_toArray, List.map_cons, List.map_nil]
    rfl
  · have e : (fs.toList ++ [Value.func (.yield (W.heap.size + 1)) #[] #[]] ++ cs.toList).toArray = fs ++ #[.func (.yield (W.heap.size + 1)) #[] #[]] ++ cs := by simp
    rw [e]
    exact hSeq.1 _ _
  · have hin : CallsIn (Fr0 none) (n - 1) P g _ W1 _ := hcall.more (Nat.zero_le _)
    refine hin.mono ?_
    rintro e w3 ⟨v, g', B', rfl, ⟨fo, S0, rfl, _⟩, ⟨r, E', L, h0, hJ, hl3, _⟩, hg'⟩
    have hl3 : w3.heap[W.heap.size + 1]? = some (.loop L) := hl3
    have hsx : ∀ L' : Loop, SatX F (X.st r) X.a1 (w3.putObj (W.heap.size + 1) (.loop L')) := fun L' => by
      have hnS : ¬ E'.S (W.heap.size + 1) := fun hS => by
        rcases h0.sS _ hS with k1 | k1
        · have : X.W.heap.size = W.heap.size := rfl; omega
        · have := (h0.fob _ k1).1; have := hX.hW1; have : X.W.heap.size = W.heap.size := rfl; omega
      refine ⟨B, E', hf, h0.sat.putNC ⟨rfl, rfl, rfl⟩ (fun o e => by rw [hl3] at e; cases e; rfl) (fun hd => ?_) hnS ?_⟩
      · have := (h0.sat.dd _ hd).2.2
        rw [hl3] at this; cases this
      · exact B.hG _ _ h0.sat.g (Stp.put (hX.how _ (Nat.le_succ _)) fun c T e => by rw [hl3] at e; cases e)
    rcases hg' with rfl | rfl
    · rcases hJ with ⟨id, hQ, rfl⟩ | ⟨hQ, rfl⟩
      · exact ⟨_, _, run_endLoop hl3 (by simp), wpIn_exit (hq _ _ _ _ hQ (hsx _))⟩
      · exact ⟨_, _, run_endLoop hl3 (by simp), wpIn_ret (hq _ _ _ _ hQ (hsx _))⟩
    · obtain ⟨⟨i, hix, rfl⟩, rfl⟩ := hJ
      exact ⟨_, _, run_endLoop hl3 (by simp), hq _ _ _ _ (hend i hix) (hsx _)⟩
end
end Go.Px
end

/-! PxZ -/
noncomputable section
namespace Go.Px
open Go Go.RowKit
section
variable {P : Program} {T : Nat → Option TI} {cuts : List Nat}
/-- A scope through which the run goes without a goto. -/
theorem wpIn_scope {F : Fence} {n : Nat} {P : Program} {Q : Exit → Act → World → Prop} {a : Act} {w : World} {c : Code} (h : c.wpIn F n P (Exit.noGoto Q) a w) : (Code.scope c).wpIn F n P Q a w := by
  intro b k cs hro hb hr
  have h0 : (lone (b.atR a (.code (.scope c) :: k)) cs w).fenced P F := fenced_calm hb hr rfl
  have st1 : step P (lone (b.atR a (.code (.scope c) :: k)) cs w) = .next (lone (b.atR a (.code c :: .inScope c :: k)) cs w) := step_lone_go (by simp [stepG, stepG.exec, Frame.atR])
  obtain ⟨e, a₁, w₁, hq, harr⟩ := h b (.inScope c :: k) cs hro hb hr
  cases e with
  | normal => exact ⟨.normal, a₁, w₁, hq, .head h0 st1 (StepsIn.trans harr (.one (fenced_calm hb hr rfl) (step_lone_go (by simp [stepG, stepG.exec, Frame.atR]))))⟩
  | exit id' =>
    have hx : exitTo id' (.inScope c :: k) = exitTo id' k := by simp [exitTo]
    exact ⟨.exit id', a₁, w₁, hq, fun k' hk => .head h0 st1 (harr.1 k' (by rw [hx]; exact hk)),
      fun hr' hk => let ⟨k₁, h1, h2⟩ := harr.2 hr' (by rw [hx]; exact hk); ⟨k₁, h1, .head h0 st1 h2⟩⟩
  | goto l => exact hq.elim
  | ret => exact ⟨_, a₁, w₁, hq, .of_steps (.one h0 st1) harr⟩
  | panic ch => exact ⟨_, a₁, w₁, hq, .of_steps (.one h0 st1) harr⟩
  | outgrown => exact ⟨_, a₁, w₁, hq, .of_steps (.one h0 st1) harr⟩
theorem ex_sound (hT : TsOk P T) (hm : P.follows .mixedOrders = true) : ∀ (c : Code) (r : Bool) (y : Option Yp) (np : Nat) (F : Fam P y np) (ro : Option Nat) (n : Nat) (st : St) (Q : Exit → St → Prop), (r = false → ro = none) → ex P T cuts r y np c st Q →
    ∀ (R : Exit → Act → World → Prop) (a : Act) (W : World), SatX F st a W → (∀ e st' a' W', Q e st' → SatX F st' a' W' → R e a' W') → c.wpIn (Fr0 ro) n P R a W := by
  intro c
  induction c with
  | skip => intro r y np F ro n st Q _ h R a W hs hq; exact wpIn_skip (hq _ _ _ _ h hs)
  | region id ops draw => intro r y np F ro n st Q _ h R a W hs hq; exact region_sound (cuts := cuts) (r := r) hT hm h hs hq
  | seq c d ihx ihy =>
    intro r y np F ro n st Q hro h R a W hs hq
    refine wpIn_seq ?_
    unfold ex at h
    split at h
    · obtain ⟨ι, S, hlt, h1, h2⟩ := h.ex
      refine ihx r y np F ro n st _ hro h1 _ a W hs ?_
      intro e st' a' W' h3 h4
      cases e with
      | normal =>
        obtain ⟨hn, i', h5⟩ := h3
        have := h5.sat (fun p hp => hn ▸ hlt i' p hp) h4
        rw [hn] at this
        exact ihy r y np F ro n _ Q hro (h2 i') R a' W' this hq
      | exit id => exact hq _ _ _ _ h3 h4
      | goto l => exact hq _ _ _ _ h3 h4
      | ret => exact hq _ _ _ _ h3 h4
      | panic ch => exact hq _ _ _ _ h3 h4
      | outgrown => exact hq _ _ _ _ h3 h4
    · refine ihx r y np F ro n st _ hro h _ a W hs ?_
      intro e st' a' W' h3 h4
      cases e with
      | normal => exact ihy r y np F ro n st' Q hro h3 R a' W' h4 hq
      | exit id => exact hq _ _ _ _ h3 h4
      | goto l => exact hq _ _ _ _ h3 h4
      | ret => exact hq _ _ _ _ h3 h4
      | panic ch => exact hq _ _ _ _ h3 h4
      | outgrown => exact hq _ _ _ _ h3 h4
  | cond c d e ihx ihy =>
    intro r y np F ro n st Q hro h R a W hs hq
    unfold ex at h
    split at h
    · rename_i b hb
      obtain ⟨B, E, hf, hs'⟩ := hs
      have hr := hs'.ev c
      rw [hb] at hr
      have hr : a.eval c = .bool b := hr
      exact wpIn_cond_split hr (fun e => ihx r y np F ro n st Q hro (h.t e) R a W ⟨B, E, hf, hs'⟩ hq) (fun e => ihy r y np F ro n st Q hro (h.f e) R a W ⟨B, E, hf, hs'⟩ hq)
    · exact h.elim
  | block id c ih =>
    intro r y np F ro n st Q hro h R a W hs hq
    refine wpIn_block (ih r y np F ro n st _ hro h _ a W hs ?_)
    intro e st' a' W' h3 h4
    cases e with
    | normal => exact hq _ _ _ _ h3 h4
    | exit i =>
      simp only [Exit.inBlock]
      simp only at h3
      split at h3
      · rename_i hb; rw [if_pos (Nat.eq_of_beq_eq_true hb)]; exact hq _ _ _ _ h3 h4
      · rename_i hb; rw [if_neg (fun e => by subst e; rw [Nat.beq_refl] at hb; cases hb)]; exact hq _ _ _ _ h3 h4
    | goto l => exact hq _ _ _ _ h3 h4
    | ret => exact hq _ _ _ _ h3 h4
    | panic ch => exact hq _ _ _ _ h3 h4
    | outgrown => exact hq _ _ _ _ h3 h4
  | loop c ih =>
    intro r y np F ro n st Q hro h R a W hs hq
    obtain ⟨ι, S, μ, i0, hlt, h0, h1⟩ := h.ex
    refine wpIn_loop_ix (fun i a w => SatX F ((S i).st st.n) a w) μ i0 (h0.sat (hlt i0) hs) fun i a w hI => ?_
    refine ih r y np F ro n _ _ hro (h1 i) _ a w hI ?_
    intro e st' a' W' h3 h4
    cases e with
    | normal =>
      obtain ⟨hn, i', h5, h6⟩ := h3
      have := h5.sat (fun p hp => hn ▸ hlt i' p hp) h4
      rw [hn] at this
      exact ⟨i', this, h6⟩
    | exit id => exact hq _ _ _ _ h3 h4
    | goto l => exact hq _ _ _ _ h3 h4
    | ret => exact hq _ _ _ _ h3 h4
    | panic ch => exact hq _ _ _ _ h3 h4
    | outgrown => exact hq _ _ _ _ h3 h4
  | rangeFunc f params assign body ih1 ih2 =>
    intro r y np F ro n st Q hro h R a W hs hq
    cases r with
    | true => exact h.elim
    | false =>
      rw [hro rfl]
      exact rg_sound (fun np' F' l st Q h => ih1 true none np' F' (some l) 0 st Q nofun h) (fun np' F' l st Q h => ih2 true none np' F' (some l) 0 st Q nofun h) h hs hq
  | exit id => intro r y np F ro n st Q _ h R a W hs hq; exact wpIn_exit (hq _ _ _ _ h hs)
  | scope c ih =>
    intro r y np F ro n st Q hro h R a W hs hq
    refine wpIn_scope ?_
    refine ih r y np F ro n _ _ hro h _ a W hs ?_
    intro e st' a' W' h3 h4
    cases e with
    | goto l => exact h3.elim
    | _ => exact hq _ _ _ _ h3 h4
  | label l => intro r y np F ro n st Q _ h R a W hs hq; exact wpIn_label (hq _ _ _ _ h hs)
  | goto l => intro r y np F ro n st Q _ h; exact h.elim
  | ret => intro r y np F ro n st Q _ h R a W hs hq; exact wpIn_ret (hq _ _ _ _ h hs)
  | refuse why => intro r y np F ro n st Q _ h; exact h.elim
end
/-! ### The same runs, told by recursors: they are made out faster -/
section
variable (P : Program) (T : Nat → Option TI) (y : Option Yp) (C : Option Chk) (ol : List Oper) (base : Nat)
def runF (ih : Nat → List Tr → St → (St → Prop) → Prop) (o : Oper) (i : Nat) (tr : List Tr) (st : St) (K : St → Prop) : Prop :=
  match wantedV ol o st with
  | none => False
  | some false => chk C base i o st (.dv .top) tr fun tr => forceS (st.put o.dst (.d (.v undef))) fun s => ih (i + 1) tr s K
  | some true => match isCallOp o.op with
    | true => match yieldOf o.op st with
      | some (u, args) => (match C, y, st.gh with
        | none, some y, some k => Yl (u = .func (.yield y.l) #[] #[] ∧ okDVs st args ∧ k < y.N ∧ DImps (args.map (toDV fuel st.hp)) (y.Y k))
            (forceS ((yst st args (some (k + 1))).put o.dst (.d (.v (.bool true)))) fun s => ih (i + 1) tr s K) (forceS ((yst st args none).put o.dst (.d (.v (.bool false)))) fun s => ih (i + 1) tr s K)
        | _, _, _ => False)
      | none => Cl fun r => fin (stepV P T (base + i) o.op o.type st r) fun c x s => Ob c (chk C base i o st r tr fun tr => alt (guards ol i) x fun z => forceS (s.put o.dst z) fun s => ih (i + 1) tr s K)
    | false => match nextOf o.op st with
      | some (id, kt, f, seen) => (match C with
        | none => Nx kt.n f seen (fun k x => forceS ((nxS st id kt f seen k x).put o.dst (.d (nxD kt k x))) fun s => ih (i + 1) tr s K) (forceS (st.put o.dst (.d nxE)) fun s => ih (i + 1) tr s K)
        | some _ => False)
      | none => match nilOf T o.op st with
        | some (n, b) => (match C with
          | none => Uk b (n = 0) fun b => forceS (st.put o.dst (.d (.v (.bool b)))) fun s => ih (i + 1) tr s K
          | some _ => False)
        | none => match apO T o.op st with
          | some (id, e, k, off, n, f, c, m, g) => (match C with
            | none => Ap c off n f g fun o' h => forceS ((apS st (base + i) id e k o' n m h).put o.dst (.ms (base + i) k o' (n + m))) fun s => ih (i + 1) tr s K
            | some _ => False)
          | none => fin (stepV P T (base + i) o.op o.type st (.dv .top)) fun c x s => obl (isT o.op) c (chk C base i o st (.dv .top) tr fun tr => alt (guards ol i) x fun z => forceS (s.put o.dst z) fun s => ih (i + 1) tr s K)
noncomputable def runL (l : List Oper) : Nat → List Tr → St → (St → Prop) → Prop :=
  List.rec (motive := fun _ => Nat → List Tr → St → (St → Prop) → Prop) (fun _ _ st K => K st) (fun o _ ih => runF P T y C ol base ih o) l
theorem runL_eq : ∀ (l : List Oper) (i : Nat) (tr : List Tr) (st : St) (K : St → Prop), runL P T y C ol base l i tr st K = runOps P T y C ol base (zipI i l) tr st K := by
  intro l
  induction l with
  | nil => intro i tr st K; rfl
  | cons o l ih =>
    intro i tr st K
    have e : runL P T y C ol base l = fun i tr st K => runOps P T y C ol base (zipI i l) tr st K := by
      funext i tr st K; exact ih i tr st K
    show runF P T y C ol base (runL P T y C ol base l) o i tr st K = _
    rw [e, zipI, runOps]
    rfl
end
section
variable (P : Program) (T : Nat → Option TI) (cuts : List Nat)
noncomputable def exC (c : Code) : Bool → Option Yp → Nat → St → (Exit → St → Prop) → Prop :=
  Code.rec (motive := fun _ => Bool → Option Yp → Nat → St → (Exit → St → Prop) → Prop)
    (fun _ _ _ st Q => Q .normal st)
    (fun _ ops draw _ y _ st Q => St.rec (motive := fun _ => Prop) (fun n nx tm hp gh => runL P T y (match draw with | true => some (chkC ops) | false => none) ops.toList nx ops.toList 0 [] ⟨n, nx, tm, hp, gh⟩ fun st' => St.rec (motive := fun _ => Prop) (fun n' _ tm' hp' gh' => forceN (nx + ops.size) fun nx' => Q .normal ⟨n', nx', tm', hp', gh'⟩) st') st)
    (fun _ d ihc ihd r y np st Q => match isCut cuts d with
      | true => Ct np st (fun Q' => ihc r y np st Q') (fun st => ihd r y np st Q) Q
      | false => ihc r y np st fun e st' => match e with
        | .normal => ihd r y np st' Q
        | e => Q e st')
    (fun c _ _ ihd ihe r y np st Q => match st.ev c with
      | .d (.v (.bool b)) => Sp b (ihd r y np st Q) (ihe r y np st Q)
      | _ => False)
    (fun id _ ih r y np st Q => ih r y np st fun e st' => match e with
      | .exit i => (match Nat.beq i id with
        | true => Q .normal st'
        | false => Q (.exit i) st')
      | e => Q e st')
    (fun _ ih r y np st Q => Lp np st (fun st Q' => ih r y np st Q') Q)
    (fun f ps _ _ ih1 ih2 r _ np st Q => match r with
      | false => Rg P np st (st.ev f) ps.toList (fun np' st1 Q' => ih1 true none np' st1 fun e st2 => match e with
        | .normal => ih2 true none np' st2 Q'
        | _ => False) Q
      | true => False)
    (fun id _ _ _ st Q => Q (.exit id) st)
    (fun _ ih r y np st Q => ih r y np st fun e st' => match e with
      | .goto _ => False
      | e => Q e st')
    (fun _ _ _ _ st Q => Q .normal st)
    (fun _ _ _ _ _ _ => False)
    (fun _ _ _ st Q => Q .ret st)
    (fun _ _ _ _ _ _ => False) c
theorem exC_eq : ∀ (c : Code) (r : Bool) (y : Option Yp) (np : Nat) (st : St) (Q : Exit → St → Prop), exC P T cuts c r y np st Q = ex P T cuts r y np c st Q := by
  intro c
  induction c with
  | region id ops draw =>
    intro r y np st Q
    obtain ⟨n, nx, tm, hp, gh⟩ := st
    refine Eq.trans (?_ : _ = runL P T y (match draw with | true => some (chkC ops) | false => none) ops.toList nx ops.toList 0 [] ⟨n, nx, tm, hp, gh⟩ fun st' => forceS { st' with next := nx + ops.size } (Q .normal)) (runL_eq ..)
    show runL P T y _ ops.toList nx ops.toList 0 [] ⟨n, nx, tm, hp, gh⟩ _ = _
    congr 1
    funext st'
    obtain ⟨n', nx', tm', hp', gh'⟩ := st'
    refine propext ?_
    exact (forceN_iff (nx + ops.size) fun nx' => Q .normal ⟨n', nx', tm', hp', gh'⟩).trans (forceS_iff ⟨n', nx + ops.size, tm', hp', gh'⟩ (Q .normal)).symm
  | seq c d ihc ihd =>
    intro r y np st Q
    have ec : exC P T cuts c = fun r y np st Q => ex P T cuts r y np c st Q := by funext r y np st Q; exact ihc ..
    have ed : exC P T cuts d = fun r y np st Q => ex P T cuts r y np d st Q := by funext r y np st Q; exact ihd ..
    show (match isCut cuts d with
      | true => Ct np st (fun Q' => exC P T cuts c r y np st Q') (fun st => exC P T cuts d r y np st Q) Q
      | false => exC P T cuts c r y np st fun e st' => match e with
        | .normal => exC P T cuts d r y np st' Q
        | e => Q e st') = _
    rw [ec, ed, ex]
    try rfl
  | cond c d e ihd ihe =>
    intro r y np st Q
    have ec : exC P T cuts d = fun r y np st Q => ex P T cuts r y np d st Q := by funext r y np st Q; exact ihd ..
    have ed : exC P T cuts e = fun r y np st Q => ex P T cuts r y np e st Q := by funext r y np st Q; exact ihe ..
    show (match st.ev c with
      | .d (.v (.bool b)) => Sp b (exC P T cuts d r y np st Q) (exC P T cuts e r y np st Q)
      | _ => False) = _
    rw [ec, ed, ex]
    try rfl
  | block id c ih =>
    intro r y np st Q
    exact ih ..
  | scope c ih =>
    intro r y np st Q
    rw [ex, ← ih]
    rfl
  | loop c ih =>
    intro r y np st Q
    have ec : exC P T cuts c = fun r y np st Q => ex P T cuts r y np c st Q := by funext r y np st Q; exact ih ..
    show Lp np st (fun st Q' => exC P T cuts c r y np st Q') Q = _
    rw [ec, ex]
  | rangeFunc f ps as body ih1 ih2 =>
    intro r y np st Q
    have ec : exC P T cuts as = fun r y np st Q => ex P T cuts r y np as st Q := by funext r y np st Q; exact ih1 ..
    have ed : exC P T cuts body = fun r y np st Q => ex P T cuts r y np body st Q := by funext r y np st Q; exact ih2 ..
    cases r with
    | true => rfl
    | false =>
      show Rg P np st (st.ev f) ps.toList (fun np' st1 Q' => exC P T cuts as true none np' st1 fun e st2 => match e with
        | .normal => exC P T cuts body true none np' st2 Q'
        | _ => False) Q = _
      rw [ec, ed, ex]
      try rfl
  | _ => intros; rfl
end
end Go.Px
end

/-! PxT -/
noncomputable section
namespace Go.Px
open Go Go.RowKit
def lookL : List DV → Nat → AV
  | [], _ => .d (.v undef)
  | x :: l, j => match j with
    | 0 => .d x
    | j + 1 => lookL l j
def entry (n : Nat) (args : List DV) : St := ⟨n, 0, lookL args, fun _ => none, some 0⟩
def resV (T : Nat → Option TI) (st : St) : ResultVar → Option (Prop × AV)
  | .tmp t => some (True, st.ev (.tmp t))
  | .cell a t => match T t with
    | some ti => loadV ti st.hp (st.ev (.tmp a))
    | none => none
def resVs (T : Nat → Option TI) (st : St) : List ResultVar → Option (Prop × List AV)
  | [] => some (True, [])
  | r :: rs => match resV T st r, resVs T st rs with
    | some (c, x), some (c', xs) => some (c ∧ c', x :: xs)
    | _, _ => none
def nthA : List AV → Nat → AV
  | [], _ => .d .top
  | x :: l, j => match j with
    | 0 => x
    | j + 1 => nthA l j
/-- The last node: what is handed out can be told, and says what it should. -/
structure Fi (p q : Prop) : Prop where
  ok : p
  im : q
/-- What is asked of the results. -/
def finS (T : Nat → Option TI) (rs : List ResultVar) (res : DV) (st : St) : Prop :=
  match resVs T st rs with
  | some (c, xs) => Ob c (Fi (okDVs st xs) (match xs with
    | [x] => DImp (toDV fuel st.hp x) res
    | xs => DImp (.tp xs.length fun j => toDV fuel st.hp (nthA xs j)) res))
  | none => False
def finQ (T : Nat → Option TI) (rs : List ResultVar) (res : DV) : Exit → St → Prop
  | .normal, st => finS T rs res st
  | .ret, st => finS T rs res st
  | _, _ => False
section
variable {P : Program} {T : Nat → Option TI} {cuts : List Nat}
theorem entry_sat {S : Nat → Prop} {w : World} {B : Base} (hB : (∀ b, B.ow b ↔ w.heap.size ≤ b) ∧ B.S0 = S ∧ B.G w ∧ ∀ id, B.ρ0 id = .un) (hS : ∀ b, S b → b < w.heap.size) {args : List DV} {vals : List Value} (h : Reps S w args vals) {n : Nat} (hn : args.length ≤ n) :
    Sat B
      (fun _ => True) ⟨S, fun _ => .un, []⟩ (entry n args) { tmps := vals.toArray ++ Array.replicate (n - vals.toArray.size) undef, defers := [] } w := by
  have hlen : ∀ {args : List DV} {vals : List Value}, Reps S w args vals → args.length = vals.length := by
    intro args
    induction args with
    | nil => intro vals h; cases vals <;> first | rfl | exact h.elim
    | cons x l ih => intro vals h; cases vals with
      | nil => exact h.elim
      | cons u us => simp [ih h.2]
  have hl := hlen h
  have hget : ∀ {args : List DV} {vals : List Value}, Reps S w args vals → ∀ i, RepA ⟨S, fun _ => .un, []⟩ w (lookL args i) (vals.getD i undef) := by
    intro args
    induction args with
    | nil => intro vals h i; cases vals <;> first | (simp [lookL]; rfl) | exact h.elim
    | cons x l ih => intro vals h i; cases vals with
      | nil => exact h.elim
      | cons u us => cases i with
        | zero => exact h.1
        | succ i => simpa [lookL] using ih h.2 i
  refine ⟨?_, fun i hi => ?_, fun id r h => (by cases h), fun i j b hi => absurd rfl hi, fun _ _ => rfl, fun b h => (by rw [hB.2.1] at h; exact h), fun _ h => .inl (by rw [hB.2.1]; exact h), fun b hb => ⟨fun ho => by
      have := hS b (by rw [hB.2.1] at hb; exact hb)
      have := (hB.1 b).1 ho
      omega, hS b (by rw [hB.2.1] at hb; exact hb)⟩, rfl, List.nodup_nil, fun D hD => (by cases hD), hB.2.2.1, fun id hid => absurd (hB.2.2.2 id) hid⟩
  · show (vals.toArray ++ Array.replicate (n - vals.toArray.size) undef).size = n
    simp; omega
  · show RepA _ _ (lookL args i) ((vals.toArray ++ Array.replicate (n - vals.toArray.size) undef).getD i undef)
    have e : (vals.toArray ++ Array.replicate (n - vals.toArray.size) undef).getD i undef = vals.getD i undef := by
      rw [Array.getD_eq_getD_getElem?, List.getD_eq_getElem?_getD]
      by_cases hi' : i < vals.length
      · rw [Array.getElem?_append_left (by simpa using hi')]; simp
      · rw [Array.getElem?_append_right (by simpa using hi'), List.getElem?_eq_none (by omega), Array.getElem?_replicate]
        split <;> rfl
    rw [e]; exact hget h i
def resG (tmps : Array Value) (r : ResultVar) : Sem Value :=
  match r with
  | .tmp t => pure (tmps.getD t undef)
  | .cell a t => do loadVar t (← asAddr (tmps.getD a undef))
theorem resV_run (hT : TsOk P T) {B : Base} {Fr : Nat → Prop} {E : Env} {st : St} {a : Act} {W : World} (h : Sat B Fr E st a W) {r : ResultVar} {c : Prop} {x : AV} (hv : resV T st r = some (c, x)) (hc : c) :
    ∃ v, (resG a.tmps r).run P W = .ok v W ∧ RepA E W x v := by
  cases r with
  | tmp t => cases hv; exact ⟨_, rfl, h.ev (.tmp t)⟩
  | cell ad t =>
    simp only [resV] at hv
    split at hv
    · rename_i ti ht
      obtain ⟨v, h1, h2⟩ := load_sound hT h ht (h.ev (.tmp ad)) hv hc
      refine ⟨v, ?_, h2⟩
      have e : a.eval (.tmp ad) = a.tmps.getD ad undef := rfl
      rw [e] at h1
      simp only [resG]
      generalize a.tmps.getD ad undef = u at h1 ⊢
      cases u
      case pointer p =>
        cases p with
        | some p => exact h1
        | none => simp [Instr.loadAt, Instr.sureAddr, Sem.run_bind] at h1
      all_goals (simp [Instr.loadAt, Instr.sureAddr, Sem.run_bind] at h1; done)
    · cases hv
theorem resVs_run (hT : TsOk P T) {B : Base} {Fr : Nat → Prop} {E : Env} {st : St} {a : Act} {W : World} (h : Sat B Fr E st a W) : ∀ {rs : List ResultVar} {c : Prop} {xs : List AV}, resVs T st rs = some (c, xs) → c →
    ∃ vs : List Value, (rs.mapM (resG a.tmps)).run P W = .ok vs W ∧ xs.length = vs.length ∧ ∀ j, j < xs.length → RepA E W (xs.getD j (.d .top)) (vs.getD j undef)
  | [], c, xs, hv, hc => by cases hv; exact ⟨[], rfl, rfl, by simp⟩
  | r :: rs, c, xs, hv, hc => by
    unfold resVs at hv
    split at hv
    · rename_i c1 x c2 xs' h1 h2
      cases hv
      obtain ⟨v, hr, hx⟩ := resV_run hT h h1 hc.1
      obtain ⟨vs, hrs, hl, hxs⟩ := resVs_run hT h h2 hc.2
      refine ⟨v :: vs, ?_, by simp [hl], fun j hj => ?_⟩
      · rw [List.mapM_cons]
        simp only [Sem.run_bind, hr, Result.andThen_ok, hrs, Sem.run_pure]
      · cases j with
        | zero => simpa using hx
        | succ j => simpa using hxs j (by simpa using hj)
    · cases hv
theorem nthA_getD : ∀ (xs : List AV) (j : Nat), nthA xs j = xs.getD j (.d .top)
  | [], _ => by simp [nthA]
  | x :: l, 0 => by simp [nthA]
  | x :: l, j + 1 => by simpa [nthA] using nthA_getD l j
theorem okDVs_mem {st : St} : ∀ {xs : List AV}, okDVs st xs → ∀ j, j < xs.length → okDV fuel st.hp (xs.getD j (.d .top))
  | [], _, j, hj => by simp at hj
  | x :: l, h, 0, _ => by simpa using h.1
  | x :: l, h, j + 1, hj => by simpa using okDVs_mem h.2 j (by simpa using hj)
theorem fin_sound (hT : TsOk P T) {B : Base} {fn : Func} {res : DV} {st : St} {a : Act} {W : World} {Fr : Nat → Prop} {E : Env} (h : finS T fn.results.toList res st) (hs : Sat B Fr E st a W) :
    ∃ v S', (results fn a.tmps).run P W = .ok v W ∧ Rep S' W res v ∧ (∀ b, B.S0 b → S' b) ∧ ∀ b, S' b → B.S0 b ∨ (B.ow b ∧ b < W.heap.size) := by
  unfold finS at h
  split at h
  · rename_i c xs hv
    obtain ⟨vs, hrun, hlen, hx⟩ := resVs_run hT hs hv h.c
    have h1 := h.r h.c
    have hok := h1.ok
    have himp := h1.im
    obtain ⟨E1, hs1, hev1, hr1, _, _⟩ := hs.frzs (reachs st xs)
    have hrep : ∀ j, j < xs.length → Rep E1.S W (toDV fuel st.hp (xs.getD j (.d .top))) (vs.getD j undef) := fun j hj =>
      toDV_sound hs hev1.s fuel _ _ (okDVs_mem hok j hj) (fun id hid b hb => hr1 id (by
        rw [List.getD_eq_getElem?_getD, List.getElem?_eq_getElem hj] at hid
        exact List.mem_flatMap.2 ⟨_, List.getElem_mem hj, hid⟩) (reach_live _ _ hid) b hb) (hx j hj)
    have hres : ∀ (vs : List Value), (fn.results.toList.mapM (resG a.tmps)).run P W = .ok vs W → (results fn a.tmps).run P W = .ok (if h : vs.toArray.size = 1 then vs.toArray[0] else .tuple vs.toArray) W := by
      intro vs hrun
      have e : results fn a.tmps = (do let vs ← fn.results.mapM (resG a.tmps); pure (if h : vs.size = 1 then vs[0] else .tuple vs)) := rfl
      rw [e, Sem.run_bind, Array.mapM_eq_mapM_toList, Sem.run_map, hrun]
      rfl
    refine ⟨_, E1.S, hres vs hrun, ?_, hs1.sub, hs1.sup⟩
    split at himp
    · rename_i x
      have hv1 : vs.length = 1 := by simpa using hlen.symm
      obtain ⟨v, rfl⟩ := List.length_eq_one_iff.1 hv1
      have := hrep 0 (by simp)
      simp only [List.getD_cons_zero] at this
      exact (himp.imp E1.S W).1 _ this
    · rename_i hne
      have hv1 : vs.toArray.size ≠ 1 := by
        intro e
        have : xs.length = 1 := by rw [hlen]; simpa using e
        obtain ⟨x, rfl⟩ := List.length_eq_one_iff.1 this
        exact hne x rfl
      rw [dif_neg hv1]
      refine (himp.imp E1.S W).1 _ ⟨vs.toArray, rfl, by simp [hlen], fun j hj => ?_⟩
      have := hrep j hj
      show Rep E1.S W (toDV fuel st.hp (nthA xs j)) _
      rw [nthA_getD]
      simpa [Array.getD_eq_getD_getElem?, List.getD_eq_getElem?_getD] using this
  · exact h.elim
/-- A block for deferred calls is shut. -/
theorem Sat.shut {B : Base} {Fr : Nat → Prop} {E : Env} {st : St} {a : Act} {W : World} (h : Sat B Fr E st a W) {D : Nat} {ds : List Nat} (hD : E.D = D :: ds) :
    Sat B Fr { E with D := ds } st { a with defers := ds.map mark } (W.putObj D (.deferred none)) := by
  obtain ⟨d1, d2, d3⟩ := h.dd D (by rw [hD]; exact List.mem_cons_self ..)
  have hn := h.dn
  rw [hD, List.nodup_cons] at hn
  have hoth : ∀ k, k ≠ D → (W.putObj D (.deferred none)).heap[k]? = W.heap[k]? := fun k hk => World.putObj_heap_other hk
  have hcell : ∀ {b : Nat} {c : Array Value} {T : TypeId}, W.heap[b]? = some (Obj.cells c T (0, 0)) → b ≠ D := fun hb e => by rw [e, d3] at hb; cases hb
  have hev : Ev E W { E with D := ds } (W.putObj D (.deferred none)) := ⟨fun _ h => h, fun b hb => hoth b fun e => d2 (e ▸ hb), fun _ _ => rfl, fun b c T hb => ⟨c, (hoth b (hcell hb)).trans hb, rfl⟩⟩
  have hlive : ∀ id b, st.hp id ≠ none → E.ρ id = .at b → b ≠ D := by
    intro id b hi hb
    cases hr : st.hp id with
    | none => exact absurd hr hi
    | some r =>
      obtain ⟨o, hc, hnd⟩ := at_not_deferred (h.hp id r hr) hb
      intro e
      rw [e, d3] at hc; cases hc; cases hnd
  refine ⟨h.size, fun i hi => (h.tm i hi).ev hev, fun id r hid => (h.hp id r hid).ev hev (fun b hb => hoth b (hlive id b (by rw [hid]; simp) hb)) (fun _ _ _ hn => hn), h.dist, h.fr, h.sub, fun b hb => by rw [World.putObj_size]; exact h.sup b hb, fun b hb => by rw [World.putObj_size]; exact h.s0 b hb, rfl, hn.2, fun D' hD' => ?_, ?_, h.r0⟩
  · obtain ⟨e1, e2, e3⟩ := h.dd D' (by rw [hD]; exact List.mem_cons_of_mem _ hD')
    exact ⟨e1, e2, (hoth D' fun e => hn.1 (e ▸ hD')).trans e3⟩
  · exact B.hG _ _ h.g ⟨rfl, rfl, rfl, by rw [World.putObj_size]; exact Nat.le_refl _, fun k _ hk => hoth k fun e => hk (e ▸ d1), hev.sh⟩
theorem leaves_sound {B : Base} {Fr : Nat → Prop} {fn : Func} {tmps : Array Value} {st : St} {R : Ending → World → Prop} : ∀ (Ds : List Nat) (E : Env) (W : World), Sat B Fr E st { tmps, defers := Ds.map mark } W → E.D = Ds →
    (∀ E' W', Sat B Fr E' st { tmps, defers := [] } W' → ∃ v, (results fn tmps).run P W' = .ok v W' ∧ R (.returned v) W') → LeavesInM Fence.wide 0 P fn tmps R (Ds.map mark) .returning W
  | [], E, W, hs, _, hq => hq E W hs
  | D :: ds, E, W, hs, hD, hq => by
    obtain ⟨d1, d2, d3⟩ := hs.dd D (by rw [hD]; exact List.mem_cons_self ..)
    exact ⟨by simp, .inl ⟨D, _, rfl, run_takeDeferred d3, leaves_sound ds { E with D := ds } _ (hs.shut hD) rfl hq⟩⟩
theorem Fn.of_ex (hT : TsOk P T) (hm : P.follows .mixedOrders = true) {f : Nat} {fn : Func} {c : Code} {args : List DV} {res : DV} (hf : P.funcs[f]? = some fn) (hb : fn.body = some c) (hent : Ent P f) (hn : Nat.ble args.length fn.ntmps = true)
    (h : exC P T cuts c false none 0 (entry fn.ntmps args) (finQ T fn.results.toList res)) : Fn P f args res := by
  refine ⟨hent, fun S w vals hS hv => ?_⟩
  rw [← callsIn_wide (n := 0)]
  refine callsIn_of_wp_marks hf hb trivial ?_
  have hB : (∀ b, (base0 S w).ow b ↔ w.heap.size ≤ b) ∧ (base0 S w).S0 = S ∧ (base0 S w).G w ∧ ∀ id, (base0 S w).ρ0 id = .un := ⟨fun _ => Iff.rfl, rfl, Below.refl _ _, fun _ => rfl⟩
  have hs := entry_sat hB hS hv (Nat.le_of_ble_eq_true hn)
  let F : Fam P none 0 := ⟨fun _ B => B = base0 S w, fun _ B e j hj => by subst e; exact absurd rfl hj, fun _ e => by cases e⟩
  have hend : ∀ (st' : St) (a' : Act) (W' : World), finS T fn.results.toList res st' → SatX F st' a' W' → LeavesInM Fence.wide 0 P fn a'.tmps (Post S w res) a'.defers .returning W' := by
    rintro st' ⟨tmps, defers⟩ W' hq ⟨B, E, hB', hs'⟩
    have hB' : B = base0 S w := hB'
    subst hB'
    have hdf := hs'.df
    simp only at hdf
    subst hdf
    refine leaves_sound E.D E W' hs' rfl fun E2 W2 hs2 => ?_
    obtain ⟨v, S', h1, h2, h3, h4⟩ := fin_sound hT hq hs2
    exact ⟨v, h1, v, S', rfl, h2, h3, fun b hb => h4 b hb, hs2.g⟩
  refine ex_sound hT hm c false none 0 F none 0 _ _ (fun _ => rfl) (by rw [← exC_eq]; exact h) _ _ _ ⟨base0 S w, _, rfl, hs.weak fun _ _ => trivial⟩ ?_
  intro e st' a' W' hq hs'
  cases e with
  | normal => exact hend st' a' W' hq hs'
  | ret => exact hend st' a' W' hq hs'
  | exit id => exact hq.elim
  | goto l => exact hq.elim
  | panic ch => exact hq.elim
  | outgrown => exact hq.elim
/-- At the end of a function that yields: all was yielded, or no more was asked for. -/
def finY (N : Nat) : Exit → St → Prop
  | .normal, st => st.gh = none ∨ st.gh = some N
  | .ret, st => st.gh = none ∨ st.gh = some N
  | _, _ => False
theorem Reps.app {S : Nat → Prop} {w : World} : ∀ {xs : List DV} {us : List Value} {ys : List DV} {vs : List Value}, Reps S w xs us → Reps S w ys vs → Reps S w (xs ++ ys) (us ++ vs)
  | [], [], _, _, _, h => h
  | _ :: _, _ :: _, _, _, h, k => ⟨h.1, h.2.app k⟩
theorem Seq.of_ex (hT : TsOk P T) (hm : P.follows .mixedOrders = true) {f : Nat} {fn : Func} {c : Code} {A C : List DV} {N : Nat} {Y : Nat → List DV} (hf : P.funcs[f]? = some fn) (hb : fn.body = some c) (hent : Ent P f) (hn : Nat.ble (A.length + 1 + C.length) fn.ntmps = true) (hr : fn.results = #[])
    (h : ∀ l, exC P T cuts c false (some ⟨l, N, Y⟩) 0 (entry fn.ntmps (A ++ [.v (.func (.yield l) #[] #[])] ++ C)) (finY N)) : Seq P f A C N Y := by
  refine ⟨hent, fun S w vs cs l F B0 hS hA hC hf0 how hS0 hg hρ => ?_⟩
  refine callsIn_of_wp_marks hf hb trivial ?_
  have hreps : Reps S w (A ++ [.v (.func (.yield l) #[] #[])] ++ C) (vs ++ [Value.func (.yield l) #[] #[]] ++ cs) := (hA.app (show Reps S w [.v (.func (.yield l) #[] #[])] [Value.func (.yield l) #[] #[]] from ⟨rfl, trivial⟩)).app hC
  have hs := entry_sat ⟨how, hS0, hg, hρ⟩ hS hreps (n := fn.ntmps) (by have := Nat.le_of_ble_eq_true hn; simp; omega)
  have hend : ∀ (st' : St) (a' : Act) (W' : World), (st'.gh = none ∨ st'.gh = some N) → SatX F st' a' W' → LeavesInM Fence.wide 0 P fn a'.tmps (fun e w' => ∃ v g' B, e = .returned v ∧ F.f g' B ∧ B.G w' ∧ (g' = none ∨ g' = some N)) a'.defers .returning W' := by
    rintro st' ⟨tmps, defers⟩ W' hq ⟨B, E, hB', hs'⟩
    have hdf := hs'.df
    simp only at hdf
    subst hdf
    refine leaves_sound E.D E W' hs' rfl fun E2 W2 hs2 => ?_
    exact ⟨.tuple #[], results_none hr tmps P W2, _, st'.gh, B, rfl, hB', hs2.g, hq⟩
  refine ex_sound hT hm c false _ 0 F none 0 _ _ (fun _ => rfl) (by rw [← exC_eq]; exact h l) _ _ _ ⟨B0, _, hf0, hs.weak fun _ _ => trivial⟩ ?_
  intro e st' a' W' hq hs'
  cases e with
  | normal => exact hend st' a' W' hq hs'
  | ret => exact hend st' a' W' hq hs'
  | exit id => exact hq.elim
  | goto l => exact hq.elim
  | panic ch => exact hq.elim
  | outgrown => exact hq.elim
end
end Go.Px
end

/-! PxKy -/
namespace Go.Px
open Go Go.RowKit
section
variable {P : Program}
theorem part_int {t : Nat} {k : IntKind} (h : P.underlying t = some (.int k)) {cs : Array Value} {o : Nat} {v : Value} (hv : cs[o]? = some v) (w : World) : (part t cs o).run P w = .ok v w := by
  simp [part, Go.isAgg, run_underlying h, hv]
/-- The fields from one on are whole numbers, one after another. -/
def Flds (P : Program) : List Field → Nat → Prop
  | [], _ => True
  | f :: fs, i => f.name ≠ "_" ∧ f.offset = i ∧ P.underlying f.type = some (.int .i64) ∧ Flds P fs (i + 1)
theorem ints_get (l : List Int) {i : Nat} (h : i < l.length) : ((l.map (Value.int .i64)).toArray)[i]? = some (.int .i64 l[i]) := by
  rw [List.getElem?_toArray, List.getElem?_map, List.getElem?_eq_getElem h]; rfl
theorem drop_dec (l l' : List Int) {i : Nat} (h1 : i < l.length) (h2 : i < l'.length) : decide (l.drop i = l'.drop i) = (l[i] == l'[i] && decide (l.drop (i + 1) = l'.drop (i + 1))) := by
  have e1 : l.drop i = l[i] :: l.drop (i + 1) := List.drop_eq_getElem_cons h1
  have e2 : l'.drop i = l'[i] :: l'.drop (i + 1) := List.drop_eq_getElem_cons h2
  rw [Bool.eq_iff_iff, Bool.and_eq_true, decide_eq_true_iff, decide_eq_true_iff, beq_iff_eq, e1, e2]
  exact List.cons.injEq .. ▸ Iff.rfl
theorem eqFields_run (d : Nat) (l l' : List Int) : ∀ (fs : List Field) (i : Nat) (w : World), Flds P fs i → l.length = i + fs.length → l'.length = i + fs.length →
    (Op.eqFields (d + 1) (l.map (Value.int .i64)).toArray (l'.map (Value.int .i64)).toArray fs).run P w = .ok (decide (l.drop i = l'.drop i)) w
  | [], i, w, _, h1, h2 => by
    have e1 : l.drop i = [] := List.drop_eq_nil_of_le (by simp at h1; omega)
    have e2 : l'.drop i = [] := List.drop_eq_nil_of_le (by simp at h2; omega)
    simp [Op.eqFields, e1, e2]
  | f :: fs, i, w, ⟨hn, ho, hu, hf⟩, h1, h2 => by
    simp only [List.length_cons] at h1 h2
    have a1 := ints_get l (i := i) (by omega)
    have a2 := ints_get l' (i := i) (by omega)
    have ih := eqFields_run d l l' fs (i + 1) w hf (by omega) (by omega)
    simp only [Op.eqFields, if_pos hn, ho, Sem.run_bind, part_int hu a1, part_int hu a2, Result.andThen_ok, run_equalIn_int _ d _ _ _ _ _ hu]
    rw [drop_dec l l' (by omega) (by omega)]
    by_cases e : l[i] = l'[i]
    · rw [if_neg (by simp [e]), ih]
      simp only [e, beq_self_eq_true, Bool.true_and]
    · rw [if_pos (by simp [e])]
      rw [beq_eq_false_iff_ne.2 e]; rfl
theorem eqT_struct {t : Nat} {fs : Array Field} (hu : P.underlying t = some (.struct fs)) (hs : P.stoodInHeld t = false) (hg : P.eqGuardType P.depth t = false) (hf : Flds P fs.toList 0) : EqT P t fs.size := by
  refine ⟨hg, fun l l' w h1 h2 => ?_⟩
  have hfo : P.fieldsOf t = fs := by unfold Program.fieldsOf; rw [hu]
  unfold aggI
  rw [show (10000 : Nat) = 9999 + 1 from rfl, run_equalIn_struct w 9999 t _ _ (by rw [hfo]; exact hu) hs, hfo, eqFields_run 9998 l l' fs.toList 0 w hf (by simpa using h1) (by simpa using h2)]
  rfl
theorem eqItems_run (d : Nat) {e : Nat} (he : P.underlying e = some (.int .i64)) (l l' : List Int) : ∀ (n i : Nat) (w : World), l.length = i + n → l'.length = i + n →
    (Op.eqItems (d + 1) e 1 (l.map (Value.int .i64)).toArray (l'.map (Value.int .i64)).toArray (List.range' i n)).run P w = .ok (decide (l.drop i = l'.drop i)) w
  | 0, i, w, h1, h2 => by
    have e1 : l.drop i = [] := List.drop_eq_nil_of_le (by omega)
    have e2 : l'.drop i = [] := List.drop_eq_nil_of_le (by omega)
    simp [Op.eqItems, e1, e2]
  | n + 1, i, w, h1, h2 => by
    have a1 := ints_get l (i := i) (by omega)
    have a2 := ints_get l' (i := i) (by omega)
    have ih := eqItems_run d he l l' n (i + 1) w (by omega) (by omega)
    simp only [List.range'_succ, Op.eqItems, Nat.mul_one, Sem.run_bind, part_int he a1, part_int he a2, Result.andThen_ok, run_equalIn_int _ d _ _ _ _ _ he]
    rw [drop_dec l l' (by omega) (by omega)]
    by_cases q : l[i] = l'[i]
    · simp only [q, beq_self_eq_true, Bool.true_and, Bool.not_true, Bool.false_eq_true, if_false, ih]
    · rw [beq_eq_false_iff_ne.2 q]; rfl
theorem eqT_array {t e n : Nat} {i : TypeInfo} (hu : P.underlying t = some (.array n e)) (hg : P.eqGuardType P.depth t = false) (he : P.underlying e = some (.int .i64)) (hi : P.info? e = some i) (hc : i.size = 1) : EqT P t n := by
  refine ⟨hg, fun l l' w h1 h2 => ?_⟩
  unfold aggI
  have hc' : P.cellsOf e = 1 := by unfold Program.cellsOf; rw [hi]; exact hc
  rw [show (10000 : Nat) = 9998 + 1 + 1 from rfl, run_equalIn_array w _ _ _ hu hi, hc', List.range_eq_range', eqItems_run 9998 he l l' n 0 w (by simpa using h1) (by simpa using h2)]
  rfl
theorem chkF_run (n : Nat) (l : List Int) (em : Bool) : ∀ (fs : List Field) (i : Nat) (w : World), Flds P fs i → l.length = i + fs.length →
    ((forIn fs PUnit.unit (fun f _ => if f.name ≠ "_" then (do
      let p ← part f.type (l.map (Value.int .i64)).toArray f.offset
      Instr.checkKey em (n + 1) f.type p
      pure (ForInStep.yield PUnit.unit) : Sem (ForInStep PUnit)) else pure (ForInStep.yield PUnit.unit))) : Sem PUnit).run P w = .ok PUnit.unit w
  | [], _, w, _, _ => by simp
  | f :: fs, i, w, ⟨hn, ho, hu, hf⟩, h1 => by
    simp only [List.length_cons] at h1
    have a1 := ints_get l (i := i) (by omega)
    have hc : (Instr.checkKey em (n + 1) f.type (.int .i64 l[i])).run P w = .ok () w := by
      unfold Instr.checkKey
      simp [run_underlying hu]
    simp only [List.forIn_cons, if_pos hn, ho, Sem.run_bind, part_int hu a1, Result.andThen_ok, hc, Sem.run_pure]
    exact chkF_run n l em fs (i + 1) w hf (by omega)
theorem asking_run {kT : Nat} {kt : KT} (hinj : ∀ {k k' : List Int}, k.length = kt.n → k'.length = kt.n → keyV kt k = keyV kt k' → k = k') (heq : ∀ (l l' : List Int) w, l.length = kt.n → l'.length = kt.n → (Op.equal kT (keyV kt l) (keyV kt l')).run P w = .ok (decide (l = l')) w) {k : List Int} (hk : k.length = kt.n) :
    ∀ (es : List MapEntry) (i : Nat) (w : World), (∀ e ∈ es, ∃ k' : List Int, k'.length = kt.n ∧ e.key = keyV kt k') →
      ((Instr.findAsking kT (keyV kt k) es i).run P w = .ok none w ∧ ∀ e ∈ es, e.key ≠ keyV kt k) ∨
      ∃ (j : Nat) (e : MapEntry), (Instr.findAsking kT (keyV kt k) es i).run P w = .ok (some (i + j, e.val)) w ∧ es[j]? = some e ∧ e.key = keyV kt k
  | [], i, w, _ => .inl ⟨by simp [Instr.findAsking], by simp⟩
  | e :: es, i, w, h => by
    obtain ⟨k', hk', he⟩ := h e (by simp)
    have hr := heq k k' w hk hk'
    rw [← he] at hr
    by_cases q : k = k'
    · right
      refine ⟨0, e, ?_, rfl, by rw [he, q]⟩
      rw [decide_eq_true q] at hr
      simp only [Instr.findAsking, Sem.run_bind, hr, Result.andThen_ok, if_true, Nat.add_zero, Sem.run_pure]
    · rcases asking_run hinj heq hk es (i + 1) w (fun y hy => h y (by simp [hy])) with ⟨h1, h2⟩ | ⟨j, e', h1, h2, h3⟩
      · left
        refine ⟨by simp [Instr.findAsking, hr, q, h1], fun y hy => ?_⟩
        rcases List.mem_cons.1 hy with rfl | hy
        · rw [he]; exact fun e => q (hinj hk hk' e.symm)
        · exact h2 y hy
      · right
        exact ⟨j + 1, e', by simp [Instr.findAsking, hr, q, h1, Nat.add_assoc, Nat.add_comm 1 j], by simpa using h2, h3⟩
theorem keyOk_struct {t : Nat} {fs : Array Field} (hu : P.underlying t = some (.struct fs)) (hs : P.stoodInHeld t = false) (hg : P.eqGuardType P.depth t = false) (hf : Flds P fs.toList 0) : KeyOk P t ⟨true, fs.size⟩ := by
  have hq := eqT_struct hu hs hg hf
  refine ⟨by simp, fun em k w hk => ?_, fun k es w hk hes => ?_⟩
  · show (Instr.checkKey em 10000 t (.agg (k.map (Value.int .i64)).toArray)).run P w = _
    rw [show (10000 : Nat) = 9998 + 1 + 1 from rfl, Instr.checkKey]
    simp only [Sem.run_bind, run_underlying hu, Result.andThen_ok]
    rw [← Array.forIn_toList]
    have h0 := chkF_run 9998 k em fs.toList 0 w hf (by simpa using hk)
    rw [h0]; rfl
  · rw [run_findKey_eq w (by rw [hu])]
    have := asking_run (P := P) (kT := t) (kt := ⟨true, fs.size⟩) (fun h1 h2 h => keyV_inj (by simp) h1 h2 h) (fun l l' w h1 h2 => hq.eq l l' w h1 h2) hk es 0 w hes
    simpa using this
theorem findNow_run {k : List Int} (hk : k.length = 1) : ∀ (es : List MapEntry) (i : Nat), (∀ e ∈ es, ∃ k' : List Int, k'.length = 1 ∧ e.key = keyV ⟨false, 1⟩ k') →
    (Instr.findNow (.int .i64) (keyV ⟨false, 1⟩ k) es i = some none ∧ ∀ e ∈ es, e.key ≠ keyV ⟨false, 1⟩ k) ∨
    ∃ (j : Nat) (e : MapEntry), Instr.findNow (.int .i64) (keyV ⟨false, 1⟩ k) es i = some (some (i + j, e.val)) ∧ es[j]? = some e ∧ e.key = keyV ⟨false, 1⟩ k
  | [], i, _ => .inl ⟨rfl, by simp⟩
  | e :: es, i, h => by
    obtain ⟨k', hk', he⟩ := h e (by simp)
    obtain ⟨x, rfl⟩ := List.length_eq_one_iff.1 hk
    obtain ⟨y, rfl⟩ := List.length_eq_one_iff.1 hk'
    have h0 : Instr.sameNow (.int .i64) (keyV ⟨false, 1⟩ [x]) e.key = some (x == y) := by rw [he]; rfl
    by_cases q : x = y
    · subst q
      right
      refine ⟨0, e, ?_, rfl, he⟩
      simp [Instr.findNow, h0]
    · rw [beq_eq_false_iff_ne.2 q] at h0
      rcases findNow_run (k := [x]) rfl es (i + 1) (fun z hz => h z (by simp [hz])) with ⟨h1, h2⟩ | ⟨j, e', h1, h2, h3⟩
      · left
        refine ⟨by simp [Instr.findNow, h0, h1], fun z hz => ?_⟩
        rcases List.mem_cons.1 hz with rfl | hz
        · rw [he]; intro e2; simp [keyV] at e2; exact q e2.symm
        · exact h2 z hz
      · right
        exact ⟨j + 1, e', by simp [Instr.findNow, h0, h1, Nat.add_assoc, Nat.add_comm 1 j], by simpa using h2, h3⟩
theorem keyOk_int {t : Nat} (hu : P.underlying t = some (.int .i64)) : KeyOk P t ⟨false, 1⟩ := by
  refine ⟨fun _ => rfl, fun em k w hk => ?_, fun k es w hk hes => ?_⟩
  · obtain ⟨x, rfl⟩ := List.length_eq_one_iff.1 hk
    show (Instr.checkKey em 10000 t (.int .i64 x)).run P w = _
    rw [show (10000 : Nat) = 9999 + 1 from rfl, Instr.checkKey]
    simp [run_underlying hu]
  · rcases findNow_run hk es 0 hes with ⟨h1, h2⟩ | ⟨j, e, h1, h2, h3⟩
    · exact .inl ⟨by simp [Instr.findKey, run_underlying hu, h1], h2⟩
    · exact .inr ⟨j, e, by simp [Instr.findKey, run_underlying hu, h1], h2, h3⟩
theorem mapT {t kT eT : Nat} {kt : KT} (hu : P.underlying t = some (.map kT eT)) (hk : KeyOk P kT kt) (hz : ∀ w, (zeroValue eT).run P w = .ok (.int .i64 0) w) : MapT P t kt := ⟨kT, eT, hu, hk, hz⟩
end
end Go.Px

/-! PxTi -/
noncomputable section
namespace Go.Px
open Go Go.RowKit
/-- Slots at the entry of a function that is lent a row. -/
def lookI (k n : Nat) (args : List DV) (j : Nat) : AV := match j with
  | 0 => .ms 0 k 0 n
  | j + 1 => lookL args j
def entryI (N U k n : Nat) (x : Nat → DV) (args : List DV) : St := ⟨N, 1, lookI k n args, lookO [(0, .row true U k n x)], some 0⟩
/-- What is asked at the end: the memory 0 is the row; the result is y. -/
def finGS (T : Nat → Option TI) (np : Nat) (rs : List ResultVar) (r : Res) (y : AV) (st : St) : Prop :=
  match rs with
  | [] => Edge np st ⟨1, [], [(0, r)], st.gh⟩ ∧ y = .d .top
  | [v] => match resV T st v with
    | some (c, x) => c ∧ Edge np (st.put (some 0) x) ⟨1, [(0, y)], [(0, r)], st.gh⟩ ∧ Nat.blt 0 st.n = true
    | none => False
  | rs => match resVs T st rs with
    | some (c, xs) => c ∧ Edge np (st.put (some 0) (.tp xs.length (nthA xs))) ⟨1, [(0, y)], [(0, r)], st.gh⟩ ∧ Nat.blt 0 st.n = true
    | none => False
def finG (T : Nat → Option TI) (np : Nat) (rs : List ResultVar) (r : Res) (y : AV) : Exit → St → Prop
  | .normal, st => finGS T np rs r y st
  | .ret, st => finGS T np rs r y st
  | _, _ => False
section
variable {P : Program} {T : Nat → Option TI} {cuts : List Nat}
theorem finG_sound (hT : TsOk P T) {B : Base} {fn : Func} {np : Nat} {r : Res} {y : AV} {st : St} {a : Act} {W : World} {E : Env} (h : finGS T np fn.results.toList r y st) (hp : ∀ j, B.ρ0 j ≠ .un → j < np) (hs : Sat B (fun j => st.next ≤ j) E st a W) :
    ∃ E' s' a' v, (∀ j, j ≠ 0 → E'.ρ j = .un) ∧ Sat B (fun j => 1 ≤ j) E' s' a' W ∧ s'.hp 0 = some r ∧ (results fn a.tmps).run P W = .ok v W ∧ RepA E' W y v := by
  have hun : ∀ {E' : Env} {s' : St} {a' : Act}, Sat B (fun j => 1 ≤ j) E' s' a' W → ∀ j, j ≠ 0 → E'.ρ j = .un := fun h j hj => h.fr j (Nat.one_le_iff_ne_zero.2 hj)
  unfold finGS at h
  split at h
  · rename_i hr
    obtain ⟨hE, rfl⟩ := h
    obtain ⟨m, h1, h2, hE⟩ := hE.ex
    have := hE.sat0 h1 h2 hp (by simp) hs
    exact ⟨_, _, _, .tuple #[], hun this, this, rfl, results_none (by rw [← Array.toList_inj]; exact hr) a.tmps P W, trivial⟩
  · rename_i rv hr
    split at h
    · rename_i c x hv
      obtain ⟨hc, hE, ht⟩ := h
      obtain ⟨v, hrun, hx⟩ := resV_run hT hs hv hc
      obtain ⟨m, h1, h2, hE⟩ := hE.ex
      have hs1 := hs.put (some 0) hx
      have hn0 : 0 < st.n := blt_iff.1 ht
      have hn1 : (st.put (some 0) x).n = st.n := rfl
      have := hE.sat0 h1 h2 hp (by rintro p hp; simp only [List.mem_singleton] at hp; subst hp; exact hn0) hs1
      refine ⟨_, _, _, v, hun this, this, rfl, ?_, ?_⟩
      · have e : results fn a.tmps = (do let vs ← fn.results.mapM (resG a.tmps); pure (if h : vs.size = 1 then vs[0] else .tuple vs)) := rfl
        rw [e, Sem.run_bind, Array.mapM_eq_mapM_toList, Sem.run_map, hr]
        simp only [List.mapM_cons, List.mapM_nil, Sem.run_bind, hrun, Result.andThen_ok, Sem.run_pure]
        rfl
      · have h3 := this.tm 0 hn0
        have e : (LS.st (st.put (some 0) x).n ⟨1, [(0, y)], [(0, r)], st.gh⟩).tm 0 = y := rfl
        have e2 : ((a.put (some 0) v).tmps.getD 0 undef) = v := by
          have : 0 < a.tmps.size := by rw [hs.size]; exact hn0
          show (a.tmps.setIfInBounds 0 v).getD 0 undef = v
          simp [Array.getD, this]
        rw [e, e2] at h3; exact h3
    · exact h.elim
  · rename_i hno hone
    split at h
    · rename_i c xs hv
      obtain ⟨hc, hE, ht⟩ := h
      obtain ⟨vs, hrun, hlen, hx⟩ := resVs_run hT hs hv hc
      obtain ⟨m, h1, h2, hE⟩ := hE.ex
      have hlr : xs.length = fn.results.toList.length := by
        have : ∀ (rs : List ResultVar) (c : Prop) (xs : List AV), resVs T st rs = some (c, xs) → xs.length = rs.length := by
          intro rs
          induction rs with
          | nil => intro c xs h; cases h; rfl
          | cons r rs ih =>
            intro c xs h
            unfold resVs at h
            split at h
            · rename_i e1 e2
              cases h
              simp [ih _ _ e2]
            · cases h
        exact this _ _ _ hv
      have hne1 : vs.toArray.size ≠ 1 := by
        intro e
        have h1 : fn.results.toList.length = 1 := by rw [← hlr, hlen]; simpa using e
        obtain ⟨r, hr⟩ := List.length_eq_one_iff.1 h1
        exact hone r hr
      have hx' : RepA E W (.tp xs.length (nthA xs)) (.tuple vs.toArray) := by
        refine ⟨vs.toArray, rfl, by simp [hlen], fun j hj => ?_⟩
        have := hx j hj
        rw [nthA_getD]
        simpa [Array.getD_eq_getD_getElem?, List.getD_eq_getElem?_getD] using this
      have hs1 := hs.put (some 0) hx'
      have hn0 : 0 < st.n := blt_iff.1 ht
      have := hE.sat0 h1 h2 hp (by rintro p hp; simp only [List.mem_singleton] at hp; subst hp; exact hn0) hs1
      refine ⟨_, _, _, .tuple vs.toArray, hun this, this, rfl, ?_, ?_⟩
      · have e : results fn a.tmps = (do let vs ← fn.results.mapM (resG a.tmps); pure (if h : vs.size = 1 then vs[0] else .tuple vs)) := rfl
        rw [e, Sem.run_bind, Array.mapM_eq_mapM_toList, Sem.run_map, hrun]
        show Result.ok (if h : vs.toArray.size = 1 then vs.toArray[0] else .tuple vs.toArray) W = _
        rw [dif_neg hne1]
      · have h3 := this.tm 0 hn0
        have e : (LS.st (st.put (some 0) (.tp xs.length (nthA xs))).n ⟨1, [(0, y)], [(0, r)], st.gh⟩).tm 0 = y := rfl
        have e2 : ((a.put (some 0) (.tuple vs.toArray)).tmps.getD 0 undef) = .tuple vs.toArray := by
          have : 0 < a.tmps.size := by rw [hs.size]; exact hn0
          show (a.tmps.setIfInBounds 0 (.tuple vs.toArray)).getD 0 undef = _
          simp [Array.getD, this]
        rw [e, e2] at h3; exact h3
    · exact h.elim
theorem reps_len {S : Nat → Prop} {w : World} : ∀ {args : List DV} {vals : List Value}, Reps S w args vals → args.length = vals.length
  | [], [], _ => rfl
  | [], _ :: _, h => h.elim
  | _ :: _, [], h => h.elim
  | _ :: _, _ :: _, h => by simp [reps_len h.2]
theorem reps_get {S : Nat → Prop} {w : World} {E : Env} (hE : E.S = S) : ∀ {args : List DV} {vals : List Value}, Reps S w args vals → ∀ i, RepA E w (lookL args i) (vals.getD i undef)
  | [], [], _, i => by simp [lookL]; rfl
  | [], _ :: _, h, _ => h.elim
  | _ :: _, [], h, _ => h.elim
  | _ :: _, _ :: _, h, 0 => by subst hE; exact h.1
  | _ :: _, _ :: _, h, i + 1 => by simpa [lookL] using reps_get hE h.2 i
theorem entryI_sat {E : Env} {w : World} {v : Value} {vals : List Value} {U k n N : Nat} {x : Nat → DV} {args : List DV} (hS : ∀ b, E.S b → b < w.heap.size) (hu : ∀ j, j ≠ 0 → E.ρ j = .un) (hD : E.D = []) (hv : RepA E w (.ms 0 k 0 n) v) (hr : SatR (baseI E w) E w 0 (.row true U k n x))
    (h : Reps E.S w args vals) (hn : args.length + 1 ≤ N) :
    Sat (baseI E w) (fun j => 1 ≤ j) E (entryI N U k n x args) { tmps := (v :: vals).toArray ++ Array.replicate (N - (v :: vals).toArray.size) undef, defers := [] } w := by
  have hl := reps_len h
  refine ⟨?_, fun i hi => ?_, fun id r hid => ?_, fun i j b hi hj _ _ => ?_, fun j hj => hu j (by omega), fun _ h => h, fun _ h => .inl h, fun b hb => ⟨fun ho => ?_, hS b hb⟩, by rw [hD]; rfl, by rw [hD]; exact List.nodup_nil, fun D hD' => (by rw [hD] at hD'; cases hD'), Stp.refl _ _, fun _ _ => rfl⟩
  · show ((v :: vals).toArray ++ Array.replicate (N - (v :: vals).toArray.size) undef).size = N
    simp; omega
  · show RepA _ _ (lookI k n args i) (((v :: vals).toArray ++ Array.replicate (N - (v :: vals).toArray.size) undef).getD i undef)
    have e : ((v :: vals).toArray ++ Array.replicate (N - (v :: vals).toArray.size) undef).getD i undef = (v :: vals).getD i undef := by
      rw [Array.getD_eq_getD_getElem?, List.getD_eq_getElem?_getD]
      by_cases hi' : i < (v :: vals).length
      · rw [Array.getElem?_append_left (by simpa using hi')]; simp
      · rw [Array.getElem?_append_right (by simpa using hi'), List.getElem?_eq_none (by omega), Array.getElem?_replicate]
        split <;> rfl
    rw [e]
    cases i with
    | zero => exact hv
    | succ i => show RepA E w (lookL args i) _; simpa using reps_get rfl h i
  · have hid : lookO [(0, Res.row true U k n x)] id = some r := hid
    have := lookO_mem _ _ _ hid
    simp only [List.mem_singleton, Prod.mk.injEq] at this
    obtain ⟨rfl, rfl⟩ := this
    exact hr
  · have hz : ∀ {i}, (entryI N U k n x args).hp i ≠ none → i = 0 := fun {i} hi => by
      cases hc : lookO [(0, Res.row true U k n x)] i with
      | none => exact absurd hc hi
      | some r =>
        have := lookO_mem _ _ _ hc
        simp only [List.mem_singleton, Prod.mk.injEq] at this
        exact this.1
    rw [hz hi, hz hj]
  · rcases ho with h1 | h1
    · rcases hr with ⟨h2, _⟩ | ⟨b2, c2, h2, _, _, h4, _⟩
      · rw [h1] at h2; cases h2
      · rw [h1] at h2; cases h2
        exact h4.1 hb
    · have := hS b hb
      have h1 : w.heap.size ≤ b := h1
      omega
theorem FnI.of_ex (hT : TsOk P T) (hm : P.follows .mixedOrders = true) {f : Nat} {fn : Func} {c : Code} {args : List DV} {U k n : Nat} {x x' : Nat → DV} {y : AV} (hf : P.funcs[f]? = some fn) (hb : fn.body = some c) (hent : Ent P f) (hn : Nat.ble (args.length + 1) fn.ntmps = true)
    (h : exC P T cuts c false none 1 (entryI fn.ntmps U k n x args) (finG T 1 fn.results.toList (.row true U k n x') y)) : FnI P f U k n x x' args y := by
  refine ⟨hent, fun E w v vals hS hu hD hv hr hrep => ?_⟩
  rw [← callsIn_wide (n := 0)]
  refine callsIn_of_wp_marks hf hb trivial ?_
  have hs := entryI_sat hS hu hD hv hr hrep (Nat.le_of_ble_eq_true hn)
  have hpin : ∀ j, (baseI E w).ρ0 j ≠ .un → j < 1 := fun j hj => by
    have : j = 0 := Decidable.byContradiction fun e => hj (hu j e)
    omega
  let F : Fam P none 1 := ⟨fun _ B => B = baseI E w, fun _ B e j hj => by subst e; exact hpin j hj, fun _ e => by cases e⟩
  have hend : ∀ (st' : St) (a' : Act) (W' : World), finGS T 1 fn.results.toList (.row true U k n x') y st' → SatX F st' a' W' →
      LeavesInM Fence.wide 0 P fn a'.tmps (fun e w' => ∃ u E', e = .returned u ∧ (∀ j, j ≠ 0 → E'.ρ j = .un) ∧ E'.ρ 0 = E.ρ 0 ∧ (∀ b, E.S b → E'.S b) ∧ (∀ b, E'.S b → E.S b ∨ ((baseI E w).ow b ∧ b < w'.heap.size)) ∧ (baseI E w).G w' ∧ SatR (baseI E w) E' w' 0 (.row true U k n x') ∧ RepA E' w' y u) a'.defers .returning W' := by
    rintro st' ⟨tmps, defers⟩ W' hq ⟨B, E1, hB', hs'⟩
    have hB' : B = baseI E w := hB'
    subst hB'
    have hdf := hs'.df
    simp only at hdf
    subst hdf
    refine leaves_sound E1.D E1 W' hs' rfl fun E2 W2 hs2 => ?_
    obtain ⟨E3, s3, a3, u, q1, q2, q3, r1, r2⟩ := finG_sound hT hq hpin hs2
    have hun : (baseI E w).ρ0 0 ≠ .un := by
      show E.ρ 0 ≠ .un
      rcases hr with ⟨h1, _⟩ | ⟨b', c', h1, _⟩ <;> rw [h1] <;> simp
    exact ⟨u, r1, u, E3, rfl, q1, q2.r0 0 hun, q2.sub, q2.sup, q2.g, q2.hp 0 _ q3, r2⟩
  refine ex_sound hT hm c false none 1 F none 0 _ _ (fun _ => rfl) (by rw [← exC_eq]; exact h) _ _ _ ⟨baseI E w, _, rfl, hs⟩ ?_
  intro e st' a' W' hq hs'
  cases e with
  | normal => exact hend st' a' W' hq hs'
  | ret => exact hend st' a' W' hq hs'
  | exit id => exact hq.elim
  | goto l => exact hq.elim
  | panic ch => exact hq.elim
  | outgrown => exact hq.elim
theorem FnN.of_ex (hT : TsOk P T) (hm : P.follows .mixedOrders = true) {f : Nat} {fn : Func} {c : Code} {args : List DV} {R : Res} {y : AV} (hf : P.funcs[f]? = some fn) (hb : fn.body = some c) (hent : Ent P f) (hn : Nat.ble args.length fn.ntmps = true)
    (h : exC P T cuts c false none 0 (entry fn.ntmps args) (finG T 0 fn.results.toList R y)) : FnN P f args R y := by
  refine ⟨hent, fun S w vals hS hv => ?_⟩
  rw [← callsIn_wide (n := 0)]
  refine callsIn_of_wp_marks hf hb trivial ?_
  have hB : (∀ b, (base0 S w).ow b ↔ w.heap.size ≤ b) ∧ (base0 S w).S0 = S ∧ (base0 S w).G w ∧ ∀ id, (base0 S w).ρ0 id = .un := ⟨fun _ => Iff.rfl, rfl, Below.refl _ _, fun _ => rfl⟩
  have hs := entry_sat hB hS hv (Nat.le_of_ble_eq_true hn)
  let F : Fam P none 0 := ⟨fun _ B => B = base0 S w, fun _ B e j hj => by subst e; exact absurd rfl hj, fun _ e => by cases e⟩
  have hend : ∀ (st' : St) (a' : Act) (W' : World), finGS T 0 fn.results.toList R y st' → SatX F st' a' W' →
      LeavesInM Fence.wide 0 P fn a'.tmps (fun e w' => ∃ u E', e = .returned u ∧ (∀ j, j ≠ 0 → E'.ρ j = .un) ∧ (∀ b, S b → E'.S b) ∧ (∀ b, E'.S b → S b ∨ (w.heap.size ≤ b ∧ b < w'.heap.size)) ∧ Below w.heap.size w w' ∧ SatR (base0 S w) E' w' 0 R ∧ RepA E' w' y u) a'.defers .returning W' := by
    rintro st' ⟨tmps, defers⟩ W' hq ⟨B, E1, hB', hs'⟩
    have hB' : B = base0 S w := hB'
    subst hB'
    have hdf := hs'.df
    simp only at hdf
    subst hdf
    refine leaves_sound E1.D E1 W' hs' rfl fun E2 W2 hs2 => ?_
    obtain ⟨E3, s3, a3, u, q1, q2, q3, r1, r2⟩ := finG_sound hT hq (fun j hj => absurd rfl hj) hs2
    exact ⟨u, r1, u, E3, rfl, q1, q2.sub, q2.sup, q2.g, q2.hp 0 _ q3, r2⟩
  refine ex_sound hT hm c false none 0 F none 0 _ _ (fun _ => rfl) (by rw [← exC_eq]; exact h) _ _ _ ⟨base0 S w, _, rfl, hs.weak fun _ _ => trivial⟩ ?_
  intro e st' a' W' hq hs'
  cases e with
  | normal => exact hend st' a' W' hq hs'
  | ret => exact hend st' a' W' hq hs'
  | exit id => exact hq.elim
  | goto l => exact hq.elim
  | panic ch => exact hq.elim
  | outgrown => exact hq.elim
theorem FnF.of_ex (hT : TsOk P T) (hm : P.follows .mixedOrders = true) {f : Nat} {fn : Func} {c : Code} {args : List DV} {U k n : Nat} {x : Nat → DV} {y : AV} (hf : P.funcs[f]? = some fn) (hb : fn.body = some c) (hent : Ent P f) (hn : Nat.ble args.length fn.ntmps = true)
    (h : exC P T cuts c false none 0 (entry fn.ntmps args) (finG T 0 fn.results.toList (.row true U k n x) y)) : FnF P f args U k n x y := FnN.of_ex hT hm hf hb hent hn h
theorem FnI.imp {f : Nat} {args args' : List DV} {U k n : Nat} {x x0 x' : Nat → DV} {y : AV} (h : FnI P f U k n x x' args y) (hx : ∀ j, j < n → CImp (x0 j) (x j)) (ha : Imps args' args) : FnI P f U k n x0 x' args' y :=
  ⟨h.ent, fun E w v vals hS hu hD hv hr hrep => h.run E w v vals hS hu hD hv (by
    rcases hr with h1 | ⟨b, c, h1, h2, h3, h4, h5⟩
    · exact .inl h1
    · exact .inr ⟨b, c, h1, h2, h3, h4, fun i hi => ⟨(hx i hi).repC (h5 i hi).1, (h5 i hi).2⟩⟩) (Reps.imp ha hrep)⟩
theorem FnN.imp {f : Nat} {args args' : List DV} {R : Res} {y : AV} (h : FnN P f args R y) (ha : Imps args' args) : FnN P f args' R y :=
  ⟨h.ent, fun S w vals hS hrep => h.run S w vals hS (Reps.imp ha hrep)⟩
theorem FnF.imp {f : Nat} {args args' : List DV} {U k n : Nat} {x : Nat → DV} {y : AV} (h : FnF P f args U k n x y) (ha : Imps args' args) : FnF P f args' U k n x y := FnN.imp h ha
end
end Go.Px
end

/-! PxX -/
namespace Go.Px
open Go Go.RowKit
theorem Ob.tt {p rest : Prop} (h : p) (r : rest) : Ob p rest := ⟨h, fun _ => r⟩
theorem Ob.go {p rest : Prop} (r : p → rest) (h : p) : Ob p rest := ⟨h, r⟩
theorem Ob.inR {k : IntKind} {x : Int} {rest : Prop} (r : inR k x → rest) (h : inR k x) : Ob (inR k x) rest := ⟨h, r⟩
theorem Ob.and {p q rest : Prop} (r : p ∧ q → rest) (h : p ∧ q) : Ob (p ∧ q) rest := ⟨h, r⟩
theorem Ob.ltN {x y : Nat} {rest : Prop} (r : x < y → rest) (h : x < y) : Ob (x < y) rest := ⟨h, r⟩
theorem Ob.leN {x y : Nat} {rest : Prop} (r : x ≤ y → rest) (h : x ≤ y) : Ob (x ≤ y) rest := ⟨h, r⟩
theorem Sp.dec {p : Prop} [Decidable p] {X Y : Prop} (t : p → X) (f : ¬ p → Y) : Sp (decide p) X Y := ⟨fun h => t (of_decide_eq_true h), fun h => f (of_decide_eq_false h)⟩
theorem Sp.ndec {p : Prop} [Decidable p] {X Y : Prop} (t : ¬ p → X) (f : p → Y) : Sp (!decide p) X Y := ⟨fun h => t (fun hp => by rw [decide_eq_true hp] at h; cases h), fun h => f (by
  cases hd : decide p with
  | true => exact of_decide_eq_true hd
  | false => rw [hd] at h; cases h)⟩
theorem Sp.tt {X Y : Prop} (t : X) : Sp true X Y := ⟨fun _ => t, nofun⟩
theorem Sp.ff {X Y : Prop} (f : Y) : Sp false X Y := ⟨nofun, fun _ => f⟩
theorem Cl.go {f : CR → Prop} (r : DV) (h : f (.dv r)) : Cl f := ⟨⟨.dv r, h⟩⟩
theorem Cl.ip {f : CR → Prop} (x' : Nat → DV) (y : AV) (h : f (.ip x' y)) : Cl f := ⟨⟨.ip x' y, h⟩⟩
theorem Cl.nw {f : CR → Prop} (R : Res) (y : AV) (h : f (.nw R y)) : Cl f := ⟨⟨.nw R y, h⟩⟩
theorem Cl.ln {f : CR → Prop} (r : DV) (h : f (.ln r)) : Cl f := ⟨⟨.ln r, h⟩⟩
theorem Cl.fr {f : CR → Prop} (U k n : Nat) (x : Nat → DV) (y : AV) (h : f (.fr U k n x y)) : Cl f := ⟨⟨.fr U k n x y, h⟩⟩
theorem Ob.fn {A : Prop} {P : Program} {g : Nat} {args args' : List DV} {r : DV} {rest : Prop} (k : rest) (im : DImps args' args) (ok : A) (h : Fn P g args r) : Ob (A ∧ Fn P g args' r) rest :=
  ⟨⟨ok, h.imp im.imps (Imp.refl _)⟩, fun _ => k⟩
theorem Lp.go {np : Nat} {st : St} {body : St → (Exit → St → Prop) → Prop} {Q : Exit → St → Prop} (N : Nat) (ι : Type) (S : ι → LS) (μ : ι → Nat) (i0 : ι)
    (h : ∀ i, body ((S i).st N) fun e st' => match e with
      | .normal => st'.n = N ∧ ∃ i', Edge np st' (S i') ∧ μ i' < μ i
      | e => Q e st') (h0 : Edge np st (S i0)) (hN : st.n = N) (hl : ∀ i, (S i).tm.all (fun p => Nat.blt p.1 N) = true) : Lp np st body Q := by
  subst hN
  exact ⟨⟨ι, S, μ, i0, fun i p hp => blt_iff.1 (List.all_eq_true.1 (hl i) p hp), h0, h⟩⟩
theorem Ct.go {np : Nat} {st : St} {body : (Exit → St → Prop) → Prop} {rest : St → Prop} {Q : Exit → St → Prop} (N : Nat) (ι : Type) (S : ι → LS)
    (h : body fun e st' => match e with
      | .normal => st'.n = N ∧ ∃ i', Edge np st' (S i')
      | e => Q e st') (hr : ∀ i, rest ((S i).st N)) (hN : st.n = N) (hl : ∀ i, (S i).tm.all (fun p => Nat.blt p.1 N) = true) : Ct np st body rest Q := by
  subst hN
  exact ⟨⟨ι, S, fun i p hp => blt_iff.1 (List.all_eq_true.1 (hl i) p hp), h, hr⟩⟩
/-- A list as the elements of a row. -/
def rowOf {α : Type} (enc : α → DV) (d : α) (l : List α) : Nat → DV := fun j => enc (l.getD j d)
/-- A list that grows at its end. -/
theorem row_snoc {α : Type} {enc : α → DV} {d : α} {l : List α} {x : α} {g : Nat → DV} (h : CImp (g 0) (enc x)) (he : ∀ y, CImp (enc y) (enc y)) : ∀ j, j < (l ++ [x]).length → CImp (apd l.length (rowOf enc d l) g j) (enc ((l ++ [x]).getD j d)) := by
  intro j hj
  rw [List.length_append, List.length_singleton] at hj
  unfold apd
  by_cases h1 : j < l.length
  · have e : (l ++ [x]).getD j d = l.getD j d := by rw [List.getD_eq_getElem?_getD, List.getD_eq_getElem?_getD, List.getElem?_append_left h1]
    rw [if_pos h1, e]
    exact he _
  · have : j = l.length := by omega
    subst this
    rw [if_neg h1, Nat.sub_self, List.getD_eq_getElem?_getD, List.getElem?_append_right (Nat.le_refl _)]
    simpa using h
theorem cimp_int (x : Int) : CImp (int x) (int x) := ⟨rfl, rfl⟩
theorem ImpS.refl (x : DV) : ImpS x x := ⟨Imp.refl x⟩
theorem ImpS.row {α : Type} {t : Bool} {k : Nat} {enc : α → DV} {d : α} {l l' : List α} (h : l = l') : ImpS (.sl t k l.length fun i => rowOf enc d l (0 + i)) (slOf k enc d l') := by
  subst h
  exact ⟨Imp.sl (fun e => by cases e) rfl fun j _ => Imp.of_eq (by rw [Nat.zero_add]; rfl)⟩
theorem ImpS.nil {α : Type} {t : Bool} {k k' : Nat} {f : Nat → DV} {enc : α → DV} {d : α} : ImpS (.sl t k 0 f) (slOf k' enc d []) := ⟨Imp.sl0 (fun e => by cases e)⟩
theorem ImpS.ints {t : Bool} {n : Nat} {f : Nat → DV} {l : List Int} (hn : n = l.length) (h : ∀ j, j < n → f j = int (l.getD j 0)) : ImpS (.sl t 1 n f) (ints l) :=
  ⟨Imp.sl (fun e => by cases e) hn fun j hj => Imp.of_eq (h j hj)⟩
theorem ImpS.nil_eq {α : Type} {t : Bool} {k k' : Nat} {f : Nat → DV} {enc : α → DV} {d : α} {l : List α} (h : l = []) : ImpS (.sl t k 0 f) (slOf k' enc d l) := by subst h; exact ImpS.nil
theorem ImpS.vnil_eq {α : Type} {k' : Nat} {enc : α → DV} {d : α} {l : List α} (h : l = []) : ImpS (.v (.slice none 0 0)) (slOf k' enc d l) := by subst h; exact ⟨Imp.nil⟩
theorem ImpS.sl_eq {α : Type} {k : Nat} {enc : α → DV} {d : α} {l l' : List α} (h : l = l') : ImpS (slOf k enc d l) (slOf k enc d l') := by subst h; exact ImpS.refl _
/-- A row read from its beginning. -/
theorem ImpS.rowN {α : Type} {t : Bool} {k n : Nat} {enc : α → DV} {d : α} {l l' : List α} (hn : n = l.length) (h : l = l') : ImpS (.sl t k n fun i => rowOf enc d l (0 + i)) (slOf k enc d l') := by
  subst hn; exact ImpS.row h
theorem DImp.refl : ∀ x : DV, DImp x x := by
  intro x
  induction x with
  | v u =>
    show DImp (.v u) (.v u)
    unfold DImp
    cases u <;> simp
  | top => exact trivial
  | ag n f ih => exact ⟨rfl, allN_iff.2 fun j _ => ih j⟩
  | tp n f ih => exact ⟨rfl, allN_iff.2 fun j _ => ih j⟩
  | sl t k n f _ => exact ImpS.refl _
  | pt x o ih => exact ⟨rfl, ih⟩
  | fn g n m f c ih1 ih2 => exact ⟨rfl, rfl, rfl, allN_iff.2 fun j _ => ih1 j, allN_iff.2 fun j _ => ih2 j⟩
  | mp kt m => exact ⟨rfl, fun _ => rfl⟩
theorem CImp.refl : ∀ x : DV, CImp x x := by
  intro x
  cases x with
  | v u => exact DImp.refl _
  | top => exact trivial
  | ag n f => exact ⟨rfl, allN_iff.2 fun j _ => DImp.refl _⟩
  | tp n f => exact DImp.refl (.tp n f)
  | sl t k n f => exact DImp.refl (.sl t k n f)
  | pt x o => exact DImp.refl (.pt x o)
  | fn g n m f c => exact DImp.refl (.fn g n m f c)
  | mp kt m => exact DImp.refl (.mp kt m)
theorem row_snoc' {α : Type} {enc : α → DV} {d : α} {l : List α} {x : α} {g : Nat → DV} (h : CImp (g 0) (enc x)) : ∀ j, j < (l ++ [x]).length → CImp (apd l.length (rowOf enc d l) g j) (rowOf enc d (l ++ [x]) j) :=
  row_snoc h fun y => CImp.refl _
theorem cimp_same {n : Nat} {f : Nat → DV} : ∀ j, j < n → CImp (f j) (f j) := fun _ _ => CImp.refl _
theorem cimp_none {f g : Nat → DV} : ∀ j, j < 0 → CImp (f j) (g j) := fun j hj => absurd hj (Nat.not_lt_zero j)
/-- A fact that no search looks into. -/
structure Hid (p : Prop) : Prop where
  h : p
theorem hide {α : Type} (a : α) : ∃ r, Hid (a = r) := ⟨a, ⟨rfl⟩⟩
theorem Fn.hide {P : Program} {f : Nat} {args : List DV} {α : Type} {D : α → DV} {a : α} (h : ∀ r, Hid (a = r) → Fn P f args (D r)) : Fn P f args (D a) := h a ⟨rfl⟩
/-- A list with another element at a place. -/
theorem row_upd {α : Type} {enc : α → DV} {d : α} {l l' : List α} {i n : Nat} {v : DV} {x : α} (h : CImp v (enc x)) (hl : ∀ j, j < n → l'.getD j d = if j = i then x else l.getD j d) : ∀ j, j < n → CImp (upE i v (rowOf enc d l) j) (rowOf enc d l' j) := by
  intro j hj
  unfold upE rowOf
  rw [hl j hj]
  by_cases e : j = i
  · rw [if_pos e, if_pos e]; exact h
  · rw [if_neg e, if_neg e]; exact CImp.refl _
/-- A list with other elements at two places. -/
theorem row_upd2 {α : Type} {enc : α → DV} {d : α} {l l' : List α} {i i' n : Nat} {v v' : DV} {x x' : α} (h : CImp v (enc x)) (h' : CImp v' (enc x')) (hl : ∀ j, j < n → l'.getD j d = if j = i then x else if j = i' then x' else l.getD j d) : ∀ j, j < n → CImp (upE i v (upE i' v' (rowOf enc d l)) j) (rowOf enc d l' j) := by
  intro j hj
  unfold upE rowOf
  rw [hl j hj]
  by_cases e : j = i
  · rw [if_pos e, if_pos e]; exact h
  · rw [if_neg e, if_neg e]
    by_cases e' : j = i'
    · rw [if_pos e', if_pos e']; exact h'
    · rw [if_neg e', if_neg e']; exact CImp.refl _
/-- Numbers as the elements of a row, told by their places. -/
def rowF (F : Nat → Int) : Nat → DV := fun j => int (F j)
theorem rowF_upd {F F' : Nat → Int} {i n : Nat} {v : DV} {x : Int} (h : CImp v (int x)) (hl : ∀ j, j < n → F' j = if j = i then x else F j) : ∀ j, j < n → CImp (upE i v (rowF F) j) (rowF F' j) := by
  intro j hj
  unfold upE rowF
  rw [hl j hj]
  by_cases e : j = i
  · rw [if_pos e, if_pos e]; exact h
  · rw [if_neg e, if_neg e]; exact CImp.refl _
theorem rowF_same {F F' : Nat → Int} {n : Nat} (hl : ∀ j, j < n → F j = F' j) : ∀ j, j < n → CImp (rowF F j) (rowF F' j) := fun j hj => by
  unfold rowF; rw [hl j hj]; exact CImp.refl _
theorem rowF_const {F' : Nat → Int} {n : Nat} {v : DV} {x : Int} (h : CImp v (int x)) (hl : ∀ j, j < n → x = F' j) : ∀ j, j < n → CImp v (rowF F' j) := fun j hj => by
  unfold rowF; rw [← hl j hj]; exact h
theorem ImpS.rowF {t : Bool} {n : Nat} {F : Nat → Int} {l : List Int} (hn : n = l.length) (h : ∀ j, j < n → F j = l.getD j 0) : ImpS (.sl t 1 n fun i => Px.rowF F (0 + i)) (Px.ints l) :=
  ⟨Imp.sl (fun e => by cases e) hn fun j hj => Imp.of_eq (by show Px.int (F (0 + j)) = _; rw [Nat.zero_add, h j hj])⟩
/-- An explicit list. -/
theorem ImpS.expl {α : Type} {t : Bool} {k n : Nat} {f : Nat → DV} {enc : α → DV} {d : α} {l : List α} (hn : n = l.length) (h : AllN n fun i => DImp (f i) (enc (l.getD i d))) : ImpS (.sl t k n f) (slOf k enc d l) :=
  ⟨Imp.sl (fun e => by cases e) hn fun j hj => (allN_iff.1 h j hj).imp⟩
end Go.Px

/-! PxXa -/
namespace Go.Px
open Go Go.RowKit
theorem inR64 {x : Int} (h : -9223372036854775808 ≤ x ∧ x ≤ 9223372036854775807) : inR .i64 x := by simp only [inR]; omega
theorem lt_of_blt {a b : Nat} (h : Nat.blt a b = true) : a < b := blt_iff.1 h
theorem lt64 {x : Int} (h : x < 64) : x < ((IntKind.i64.bits : Nat) : Int) := h
/-- An obligation that needs no thought. -/
theorem Ob.a {p rest : Prop} (r : rest) (h : p := by first | exact True.intro | (refine inR64 ?_;omega) | exact lt_of_blt rfl | exact (fun _ _ => ⟨⟨_, rfl⟩, ⟨_, rfl⟩⟩) | omega | assumption | exact rfl | (refine And.intro ?_ ?_ <;> (repeat' refine And.intro ?_ ?_) <;> first | exact True.intro | omega | exact lt_of_blt rfl | (refine lt64 ?_;omega) | (refine inR64 ?_;omega) | exact rfl | exact fun _ _ => rfl | exact List.not_mem_nil) | exact And.intro True.intro (And.intro True.intro True.intro) | exact And.intro True.intro (And.intro True.intro (And.intro True.intro True.intro)) | exact Nat.le_of_ble_eq_true rfl | (refine lt64 ?_;omega) | (simp only [IntKind.bits]; omega)) : Ob p rest := ⟨h, fun _ => r⟩
/-- A list that was copied into new memory. -/
theorem ImpS.copied {α : Type} {t : Bool} {k n o m : Nat} {enc : α → DV} {d : α} {l l' : List α} {z : Nat → DV} (hn : n = l.length) (ho : o = 0) (hm : m = l.length) (h : l = l') : ImpS (.sl t k n fun i => mid o m (fun i => enc (l.getD i d)) z (0 + i)) (slOf k enc d l') := by
  subst h; subst hn; subst ho; subst hm
  refine ⟨Imp.sl (fun e => by cases e) rfl fun j hj => Imp.of_eq ?_⟩
  unfold mid
  rw [if_pos (by omega)]
  simp
/-- Elements that are told one by one. -/
theorem ImpS.fn {α : Type} {t : Bool} {k n : Nat} {f : Nat → DV} {enc : α → DV} {d : α} {l : List α} (hn : n = l.length) (h : ∀ j, j < n → f j = enc (l.getD j d)) : ImpS (.sl t k n f) (slOf k enc d l) :=
  ⟨Imp.sl (fun e => by cases e) hn fun j hj => Imp.of_eq (h j hj)⟩
/-- A list that was put behind nothing. -/
theorem ImpS.appd0 {α : Type} {t : Bool} {k n : Nat} {enc : α → DV} {d : α} {l l' : List α} {z : Nat → DV} (hn : n = l.length) (h : l = l') : ImpS (.sl t k n fun i => apd 0 z (fun i => enc (l.getD i d)) (0 + i)) (slOf k enc d l') := by
  subst h; subst hn
  exact ⟨Imp.sl (fun e => by cases e) rfl fun j hj => Imp.of_eq (by unfold apd; simp)⟩
/-- A list that was cut, and grows at its end. -/
theorem row_snoc3 {α : Type} {enc : α → DV} {d : α} {l : List α} {x : α} {n : Nat} {g : Nat → DV} (hn : n = l.length) (h : CImp (g 0) (enc x)) : ∀ j, j < (l ++ [x]).length → CImp (apd n (fun j => rowOf enc d l (0 + j)) g j) (rowOf enc d (l ++ [x]) j) := by
  subst hn
  intro j hj
  have e : apd l.length (fun j => rowOf enc d l (0 + j)) g j = apd l.length (rowOf enc d l) g j := by unfold apd; simp only [Nat.zero_add]
  rw [e]
  exact row_snoc' h j hj
theorem MImp.refl (f : List Int → Option Int) : MImp f f := fun _ => rfl
/-- What is left of a comparison of data: all that can be made out by looking, then arithmetic and facts at hand. -/
theorem Lf {p : Prop} (h : p := by
  repeat' first | (refine Edge.fast ?_) | ((conv=>whnf); first | exact True.intro | (refine And.intro ?_ ?_) | exact rfl | exact Nat.le_of_eq (Nat.zero_add _) | exact ImpS.refl _ | ((conv => arg 1; whnf); first | exact ImpS.refl _ | (refine ImpS.nil_eq ?_) | (refine ImpS.vnil_eq ?_) | (refine ImpS.row ?_) | (refine ImpS.rowN ?_ ?_) | (refine ImpS.sl_eq ?_) | (refine ImpS.copied ?_ ?_ ?_ ?_) | (refine ImpS.appd0 ?_ ?_) | (refine ImpS.rowF ?_ ?_) | (refine ImpS.fn ?_ ?_;(focus assumption); (focus assumption)) | (refine ImpS.expl rfl ?_)) | (refine row_snoc' ?_) | (refine row_snoc3 ?_ ?_) | (apply row_upd) | (apply row_upd2) | (apply rowF_upd) | (apply rowF_same) | exact cimp_none | exact cimp_same | exact List.not_mem_nil | exact DImp.refl _) | exact rfl | exact MImp.refl _ | (refine And.intro ?_ ?_) | exact ImpS.refl _ | assumption | omega | (simp only [*]; done) | (simp [*]; done)
  first | done | fail "left") : p := h
theorem Ob.call {A : Prop} {P : Program} {g : Nat} {args args' : List DV} {r : DV} {rest : Prop} (h : Fn P g args r) (k : rest) (im : DImps args' args := by exact Lf) (ok : A := by exact Lf) : Ob (A ∧ Fn P g args' r) rest :=
  ⟨⟨ok, h.imp im.imps (Imp.refl _)⟩, fun _ => k⟩
theorem Ob.ip {A : Prop} {P : Program} {g : Nat} {args args' : List DV} {U q n n' : Nat} {x x0 x' : Nat → DV} {y : AV} {rest : Prop} (h : FnI P g U q n x x' args y) (k : rest) (hn : n' = n := by first | exact rfl | omega) (hx : ∀ j, j < n → CImp (x0 j) (x j) := by exact Lf) (im : DImps args' args := by exact Lf) (ok : A := by exact Lf) :
    Ob (A ∧ FnI P g U q n' x0 x' args' y) rest := by subst hn; exact ⟨⟨ok, h.imp hx im.imps⟩, fun _ => k⟩
theorem Ob.fr {A : Prop} {P : Program} {g : Nat} {args args' : List DV} {U q n : Nat} {x : Nat → DV} {y : AV} {rest : Prop} (h : FnF P g args U q n x y) (k : rest) (im : DImps args' args := by exact Lf) (ok : A := by exact Lf) :
    Ob (A ∧ FnF P g args' U q n x y) rest := ⟨⟨ok, h.imp im.imps⟩, fun _ => k⟩
theorem Sp.yes {p : Prop} [Decidable p] {X Y : Prop} (t : X) (h : p := by omega) : Sp (decide p) X Y := Sp.dec (fun _ => t) fun hn => absurd h hn
theorem Sp.no {p : Prop} [Decidable p] {X Y : Prop} (f : Y) (h : ¬ p := by omega) : Sp (decide p) X Y := Sp.dec (fun hp => absurd hp h) fun _ => f
theorem Sp.nyes {p : Prop} [Decidable p] {X Y : Prop} (f : Y) (h : p := by omega) : Sp (!decide p) X Y := Sp.ndec (fun hn => absurd h hn) fun _ => f
theorem Sp.nno {p : Prop} [Decidable p] {X Y : Prop} (t : X) (h : ¬ p := by omega) : Sp (!decide p) X Y := Sp.ndec (fun _ => t) fun hp => absurd hp h
theorem Sp.ne {α : Type} {x y : α} [Decidable (x = y)] {X Y : Prop} (t : x ≠ y → X) (f : x = y → Y) : Sp (decide (x ≠ y)) X Y := Sp.dec t fun h => f (Decidable.of_not_not h)
theorem Sp.neq {α : Type} {x y : α} [Decidable (x = y)] {X Y : Prop} (t : x = y → X) (f : x ≠ y → Y) : Sp (!decide (x ≠ y)) X Y := Sp.ndec (fun h => t (Decidable.of_not_not h)) f
theorem Fi.a {p q : Prop} (im : q) (ok : p := by exact Lf) : Fi p q := ⟨ok, im⟩
theorem Yl.a {p X Y : Prop} (t : X) (f : Y) (c : p := by exact Lf) : Yl p X Y := ⟨c, t, f⟩
/-- The end of a round. -/
theorem End.a {ι : Type} {np N : Nat} {st : St} {S : ι → LS} {μ : ι → Nat} {i : ι} (i' : ι) (he : Edge np st (S i') := by exact Lf) (hm : μ i' < μ i := by (simp only; omega)) (hn : st.n = N := by exact rfl) : st.n = N ∧ ∃ i', Edge np st (S i') ∧ μ i' < μ i := ⟨hn, i', he, hm⟩
end Go.Px

/-! PxXb -/
namespace Go.Px
open Go Go.RowKit
theorem Lg {p : Prop} (h : p := by
  repeat' first | (refine Edge.fast ?_) | ((conv=>whnf); first | exact True.intro | (refine And.intro ?_ ?_) | exact rfl | exact Nat.le_of_eq (Nat.zero_add _) | exact ImpS.refl _ | ((conv => arg 1; whnf); first | exact ImpS.refl _ | (refine ImpS.nil_eq ?_) | (refine ImpS.vnil_eq ?_) | (refine ImpS.row ?_) | (refine ImpS.rowN ?_ ?_) | (refine ImpS.sl_eq ?_) | (refine ImpS.copied ?_ ?_ ?_ ?_) | (refine ImpS.fn ?_ ?_;(focus assumption); (focus assumption)) | (refine ImpS.expl rfl ?_)) | (refine row_snoc' ?_) | (apply row_upd) | exact cimp_none | exact cimp_same | exact List.not_mem_nil | exact DImp.refl _) | exact rfl | (refine And.intro ?_ ?_) | exact ImpS.refl _ | assumption | omega | (simp only [*]; done) | (simp [*]; done)
  first | done | fail "left") : p := h
/-- Another obligation that needs no thought. -/
theorem Ob.b {p rest : Prop} (r : rest) (h : p := by first | exact And.intro (Nat.le_of_ble_eq_true rfl) True.intro | exact Lf) : Ob p rest := ⟨h, fun _ => r⟩
theorem Rg.go {P : Program} {np : Nat} {st : St} {f : AV} {ps : List Nat} {round : Nat → St → (Exit → St → Prop) → Prop} {Q : Exit → St → Prop} (M : Nat) (G : Option Nat) (np' : Nat) (tms : List (Nat × AV)) {N : Nat} {Y : Nat → List DV} (ι : Type) (R : ι → Nat × List (Nat × Res)) (ix : ι → Nat) (i0 : ι)
    {g : Nat} {A C : List DV} (hq : Seq P g A C N Y)
    (hr : ∀ i, ix i < N → round np' (putAll ((⟨(R i).1, tms, (R i).2, some 0⟩ : LS).st M) ps (Y (ix i))) fun e st' => match e with
      | .normal => st'.gh = some 0 ∧ ∃ i', ix i' = ix i + 1 ∧ Edge np' st' ⟨(R i').1, [], (R i').2, some 0⟩
      | .exit id => ∃ r : Nat × List (Nat × Res), Edge np' st' ⟨r.1, [], r.2, some 0⟩ ∧ Q (.exit id) ((⟨r.1, tms, r.2, G⟩ : LS).st M)
      | .ret => ∃ r : Nat × List (Nat × Res), Edge np' st' ⟨r.1, [], r.2, some 0⟩ ∧ Q .ret ((⟨r.1, tms, r.2, G⟩ : LS).st M)
      | _ => False)
    (hd : ∀ i, ix i = N → Q .normal ((⟨(R i).1, tms, (R i).2, G⟩ : LS).st M))
    {A' C' : List AV} (hs : seqOf f = some (g, A', C')) (hA : A'.map (toDV fuel st.hp) = A) (hC : C'.map (toDV fuel st.hp) = C) (hok : okDVs st (A' ++ C'))
    (hn : st.n = M) (hg : st.gh = G) (ht : tms.all (fun p => Nat.blt p.1 M) = true) (hl : tms.all (fun p => namesLt np' p.2) = true) (hnp : Nat.ble np np' = true)
    (hY : ∀ k, (Y k).length = ps.length) (hps : ps.all (fun p => Nat.blt p M) = true) (he : Edge np (st.frzs (reachs st (A' ++ C'))) ⟨(R i0).1, tms, (R i0).2, G⟩) (hnx : ∀ i, Nat.ble np' (R i).1 = true) (h0 : ix i0 = 0) : Rg P np st f ps round Q := by
  subst hn; subst hg; subst hA; subst hC
  exact ⟨np', tms, g, A', C', N, Y, ι, R, ix, i0, hs, hok, hq, fun p hp => blt_iff.1 (List.all_eq_true.1 ht p hp), fun p hp => List.all_eq_true.1 hl p hp, Nat.le_of_ble_eq_true hnp, fun k _ => hY k, fun p hp => blt_iff.1 (List.all_eq_true.1 hps p hp), he, fun i => Nat.le_of_ble_eq_true (hnx i), h0, hr, hd⟩
end Go.Px

/-! PxXc -/
namespace Go.Px
open Go Go.RowKit
/-- What is left of a comparison; maps, too. -/
theorem Lh {p : Prop} (h : p := by
  repeat' first | (refine Edge.fast ?_) | ((conv=>whnf); first | exact True.intro | (refine And.intro ?_ ?_) | exact rfl | exact Nat.le_of_eq (Nat.zero_add _) | exact ImpS.refl _ | ((conv => arg 1; whnf); first | exact ImpS.refl _ | (refine ImpS.nil_eq ?_) | (refine ImpS.vnil_eq ?_) | (refine ImpS.row ?_) | (refine ImpS.rowN ?_ ?_) | (refine ImpS.sl_eq ?_) | (refine ImpS.copied ?_ ?_ ?_ ?_) | (refine ImpS.fn ?_ ?_;(focus assumption); (focus assumption)) | (refine ImpS.expl rfl ?_)) | (refine row_snoc' ?_) | (apply row_upd) | exact cimp_none | exact cimp_same | exact List.not_mem_nil | exact DImp.refl _) | exact rfl | exact MImp.refl _ | (refine And.intro ?_ ?_) | exact ImpS.refl _ | assumption | omega | (simp only [*]; done) | (simp [*]; done)
  first | done | fail "left") : p := h
/-- What is left of a comparison, as far as it goes without thought. -/
theorem Rg.go2 {P : Program} {np : Nat} {st : St} {f : AV} {ps : List Nat} {round : Nat → St → (Exit → St → Prop) → Prop} {Q : Exit → St → Prop} (M : Nat) (G : Option Nat) (np' : Nat) (tms : List (Nat × AV)) {N : Nat} {Y : Nat → List DV} (ι : Type) (R : ι → Nat × List (Nat × Res)) (ix : ι → Nat) (i0 : ι)
    {g : Nat} {A C : List DV} (hq : Seq P g A C N Y)
    (hr : ∀ i k, ix i = k → k < N → round np' (putAll ((⟨(R i).1, tms, (R i).2, some 0⟩ : LS).st M) ps (Y k)) fun e st' => match e with
      | .normal => st'.gh = some 0 ∧ ∃ i', ix i' = k + 1 ∧ Edge np' st' ⟨(R i').1, [], (R i').2, some 0⟩
      | .exit id => ∃ r : Nat × List (Nat × Res), Edge np' st' ⟨r.1, [], r.2, some 0⟩ ∧ Q (.exit id) ((⟨r.1, tms, r.2, G⟩ : LS).st M)
      | .ret => ∃ r : Nat × List (Nat × Res), Edge np' st' ⟨r.1, [], r.2, some 0⟩ ∧ Q .ret ((⟨r.1, tms, r.2, G⟩ : LS).st M)
      | _ => False)
    (hd : ∀ i, ix i = N → Q .normal ((⟨(R i).1, tms, (R i).2, G⟩ : LS).st M))
    (he : Edge np (st.frzs (reachs st ((match seqOf f with | some x => x.2.1 | none => []) ++ (match seqOf f with | some x => x.2.2 | none => [])))) ⟨(R i0).1, tms, (R i0).2, G⟩)
    (hnx : ∀ i, Nat.ble np' (R i).1 = true)
    (hs : seqOf f = some (g, (match seqOf f with | some x => x.2.1 | none => []), (match seqOf f with | some x => x.2.2 | none => [])) := by exact rfl)
    (hA : (match seqOf f with | some x => x.2.1 | none => []).map (toDV fuel st.hp) = A := by exact rfl) (hC : (match seqOf f with | some x => x.2.2 | none => []).map (toDV fuel st.hp) = C := by exact rfl)
    (hok : okDVs st ((match seqOf f with | some x => x.2.1 | none => []) ++ (match seqOf f with | some x => x.2.2 | none => [])) := by exact Lh)
    (hn : st.n = M := by exact rfl) (hg : st.gh = G := by exact rfl) (ht : tms.all (fun p => Nat.blt p.1 M) = true := by exact rfl) (hl : tms.all (fun p => namesLt np' p.2) = true := by exact rfl) (hnp : Nat.ble np np' = true := by exact rfl)
    (hY : ∀ k, (Y k).length = ps.length := by exact fun _ => rfl) (hps : ps.all (fun p => Nat.blt p M) = true := by exact rfl) (h0 : ix i0 = 0 := by exact rfl) : Rg P np st f ps round Q :=
  Rg.go M G np' tms ι R ix i0 hq (fun i h => hr i _ rfl h) hd hs hA hC hok hn hg ht hl hnp hY hps he hnx h0
theorem nodup_le {α : Type} [DecidableEq α] : ∀ (K l : List α), l.Nodup → (∀ x ∈ l, x ∈ K) → l.length ≤ K.length
  | [], l, _, h => by
    cases l with
    | nil => exact Nat.le_refl _
    | cons x l => exact absurd (h x (by simp)) (by simp)
  | a :: K, l, hn, h => by
    have hn' : (l.erase a).Nodup := hn.erase a
    have := nodup_le K (l.erase a) hn' fun x hx => by
      have hx' := (hn.mem_erase_iff.1 hx)
      rcases List.mem_cons.1 (h x hx'.2) with e | e
      · exact absurd e hx'.1
      · exact e
    have hl := List.length_erase_le (a := a) (l := l)
    by_cases ha : a ∈ l
    · rw [List.length_erase_of_mem ha] at this; rw [List.length_cons]; omega
    · rw [List.erase_of_not_mem ha] at this; rw [List.length_cons]; omega
end Go.Px

/-! PxXd -/
namespace Go.Px
open Go Go.RowKit
def isTopA : AV → Bool
  | .d .top => true
  | _ => false
/-- Slots, made out. -/
noncomputable def snapT (tm : Nat → AV) (l : List Nat) : (List (Nat × AV) → Prop) → Prop :=
  List.rec (motive := fun _ => (List (Nat × AV) → Prop) → Prop) (fun K => K [])
    (fun j _ ih K => force (tm j) fun x => match isTopA x with
      | true => ih K
      | false => ih fun r => K ((j, x) :: r)) l
noncomputable def forceC (f : Nat → AV) (l : List Nat) : (List AV → Prop) → Prop :=
  List.rec (motive := fun _ => (List AV → Prop) → Prop) (fun K => K []) (fun j _ ih K => force (f j) fun x => ih fun r => K (x :: r)) l
def nthL : List AV → Nat → AV
  | [], _ => .d .top
  | x :: l, j => bif Nat.beq j 0 then x else nthL l (j - 1)
def forceB (b : Bool) (K : Bool → Prop) : Prop :=
  match b with
  | true => K true
  | false => K false
noncomputable def forceR (r : Res) (K : Res → Prop) : Prop :=
  match r with
  | .cs mt n f => forceB mt fun mt => bif Nat.ble n 24 then (forceN n fun n => forceC f (List.range n) fun l => K (.cs mt n (nthL l))) else K (.cs mt n f)
  | .row mt T k n f => forceB mt fun mt => K (.row mt T k n f)
  | .mp mt kt m => forceB mt fun mt => K (.mp mt kt m)
  | .it mt kt m seen cur => forceB mt fun mt => K (.it mt kt m seen cur)
  | .me mt kt m l born => forceB mt fun mt => K (.me mt kt m l born)
noncomputable def snapH (hp : Nat → Option Res) (l : List Nat) : (List (Nat × Res) → Prop) → Prop :=
  List.rec (motive := fun _ => (List (Nat × Res) → Prop) → Prop) (fun K => K [])
    (fun j _ ih K => match hp j with
      | some r => forceR r fun r => ih fun l => K ((j, r) :: l)
      | none => ih K) l
def topId : List (Nat × Res) → Nat
  | [] => 0
  | (j, _) :: l => Nat.max (j + 1) (topId l)
def forceG (g : Option Nat) (K : Option Nat → Prop) : Prop :=
  match g with
  | some n => forceN n fun n => K (some n)
  | none => K none
noncomputable def snap (st : St) (ks : List Nat) (fuel : Nat) (K : LS → Prop) : Prop :=
  snapT st.tm ks fun tm => snapH st.hp (List.range fuel) fun hp => forceN (topId hp) fun nx => forceG st.gh fun g => K ⟨nx, tm, hp, g⟩
theorem snapT_any {tm : Nat → AV} {X : Prop} : ∀ (l : List Nat) {K : List (Nat × AV) → Prop}, (∀ r, K r → X) → snapT tm l K → X
  | [], K, h, hk => h _ hk
  | j :: l, K, h, hk => by
    have hk : force (tm j) fun x => match isTopA x with
      | true => snapT tm l K
      | false => snapT tm l fun r => K ((j, x) :: r) := hk
    rw [force_iff] at hk
    split at hk
    · exact snapT_any l h hk
    · exact snapT_any l (fun r hr => h _ hr) hk
theorem forceC_any {f : Nat → AV} {X : Prop} : ∀ (l : List Nat) {K : List AV → Prop}, (∀ r, K r → X) → forceC f l K → X
  | [], K, h, hk => h _ hk
  | j :: l, K, h, hk => forceC_any l (fun r hr => h _ hr) ((force_iff _ _).1 (show force (f j) fun x => forceC f l fun r => K (x :: r) from hk))
theorem forceB_iff (b : Bool) (K : Bool → Prop) : forceB b K ↔ K b := by cases b <;> exact Iff.rfl
theorem forceG_iff (g : Option Nat) (K : Option Nat → Prop) : forceG g K ↔ K g := by
  cases g with
  | none => exact Iff.rfl
  | some n => exact forceN_iff n (fun n => K (some n))
theorem forceR_any {r : Res} {X : Prop} {K : Res → Prop} (h : ∀ r, K r → X) (hk : forceR r K) : X := by
  cases r with
  | cs mt n f =>
    have hk : forceB mt fun mt => bif Nat.ble n 24 then (forceN n fun n => forceC f (List.range n) fun l => K (.cs mt n (nthL l))) else K (.cs mt n f) := hk
    rw [forceB_iff] at hk
    revert hk
    cases Nat.ble n 24 with
    | true => exact fun hk => forceC_any _ (fun r hr => h _ hr) ((forceN_iff _ (fun n => forceC f (List.range n) fun l => K (.cs mt n (nthL l)))).1 hk)
    | false => exact fun hk => h _ hk
  | row mt T k n f => exact h _ ((forceB_iff _ (fun mt => K (.row mt T k n f))).1 hk)
  | mp mt kt m => exact h _ ((forceB_iff _ (fun mt => K (.mp mt kt m))).1 hk)
  | it mt kt m seen cur => exact h _ ((forceB_iff _ (fun mt => K (.it mt kt m seen cur))).1 hk)
  | me mt kt m l born => exact h _ ((forceB_iff _ (fun mt => K (.me mt kt m l born))).1 hk)
theorem snapH_any {hp : Nat → Option Res} {X : Prop} : ∀ (l : List Nat) {K : List (Nat × Res) → Prop}, (∀ r, K r → X) → snapH hp l K → X
  | [], K, h, hk => h _ hk
  | j :: l, K, h, hk => by
    have hk : (match hp j with
      | some r => forceR r fun r => snapH hp l fun l => K ((j, r) :: l)
      | none => snapH hp l K) := hk
    split at hk
    · exact forceR_any (fun r hr => snapH_any l (fun r hr => h _ hr) hr) hk
    · exact snapH_any l h hk
theorem snap_any {st : St} {ks : List Nat} {fuel : Nat} {K : LS → Prop} {X : Prop} (h : ∀ b, K b → X) (hk : snap st ks fuel K) : X :=
  snapT_any _ (fun _ hr => snapH_any _ (fun _ hr => h _ ((forceG_iff _ _).1 ((forceN_iff _ _).1 hr))) hr) hk
/-- The same with b, what is read off, at hand. -/
structure LpB (b : LS) (np : Nat) (st : St) (body : St → (Exit → St → Prop) → Prop) (Q : Exit → St → Prop) : Prop where
  h : Lp np st body Q
theorem Lp.snap {np : Nat} {st : St} {body : St → (Exit → St → Prop) → Prop} {Q : Exit → St → Prop} (ks : List Nat) (fuel : Nat) (h : snap st ks fuel fun b => LpB b np st body Q) : Lp np st body Q := snap_any (fun _ h => h.h) h
def keyIn {α : Type} (u : List (Nat × α)) (j : Nat) : Bool :=
  match u with
  | [] => false
  | (i, _) :: l => bif Nat.beq i j then true else keyIn l j
noncomputable def updL {α : Type} (u b : List (Nat × α)) : List (Nat × α) :=
  List.rec (motive := fun _ => List (Nat × α)) u (fun p _ ih => bif keyIn u p.1 then ih else p :: ih) b
noncomputable def forceL {α : Type} (l : List (Nat × α)) : (List (Nat × α) → Prop) → Prop :=
  List.rec (motive := fun _ => (List (Nat × α) → Prop) → Prop) (fun K => K []) (fun p _ ih K => match p with
    | (j, x) => ih fun r => K ((j, x) :: r)) l
theorem forceL_iff {α : Type} : ∀ (l : List (Nat × α)) (K : List (Nat × α) → Prop), forceL l K ↔ K l
  | [], _ => Iff.rfl
  | (_, _) :: l, K => forceL_iff l _
/-- What is read off, but for what changes: names from nx on are new. -/
noncomputable def LS.upd (b : LS) (x : Nat) (u : Nat → List (Nat × AV) × List (Nat × Res)) : LS := LS.rec (motive := fun _ => LS) (fun nx tm hp gh => ⟨nx + x, updL (u nx).1 tm, updL (u nx).2 hp, gh⟩) b
noncomputable def LS.updR (b : LS) (x : Nat) (u : Nat → List (Nat × Res)) (g : Option Nat) : LS := LS.rec (motive := fun _ => LS) (fun nx tm hp _ => ⟨nx + x, tm, updL (u nx) hp, g⟩) b
noncomputable def LS.updH (b : LS) (x : Nat) (u : Nat → List (Nat × Res)) (g : Option Nat) : LS := LS.rec (motive := fun _ => LS) (fun nx _ hp _ => ⟨nx + x, [], updL (u nx) hp, g⟩) b
noncomputable def forceLS (s : LS) (K : LS → Prop) : Prop := forceN s.nx fun nx => forceL s.tm fun tm => forceL s.hp fun hp => forceG s.gh fun g => K ⟨nx, tm, hp, g⟩
theorem forceLS_iff (s : LS) (K : LS → Prop) : forceLS s K ↔ K s := by
  unfold forceLS
  rw [forceN_iff, forceL_iff, forceL_iff, forceG_iff]
def ltAll {α : Type} (N : Nat) : List (Nat × α) → Bool
  | [] => true
  | p :: l => bif Nat.blt p.1 N then ltAll N l else false
theorem ltAll_iff {α : Type} {N : Nat} : ∀ {l : List (Nat × α)}, ltAll N l = true → ∀ p ∈ l, p.1 < N
  | q :: l, h, p, hp => by
    unfold ltAll at h
    cases hq : Nat.blt q.1 N with
    | false => rw [hq] at h; cases h
    | true =>
      rw [hq] at h
      rcases List.mem_cons.1 hp with rfl | hp
      · exact blt_iff.1 hq
      · exact ltAll_iff h p hp
/-- A loop: ι what is told of a round, U the slots and memories that change by it, x how many new names it has; G: more that is told at no slot. -/
theorem LpB.go {b : LS} {np : Nat} {st : St} {body : St → (Exit → St → Prop) → Prop} {Q : Exit → St → Prop} (N : Nat) (ι : Type) (x : Nat) (U : ι → Nat → List (Nat × AV) × List (Nat × Res)) (μ : ι → Nat) (i0 : ι)
    (h : ∀ i, forceLS (b.upd x (U i)) fun s => body (s.st N) fun e st' => match e with
      | .normal => st'.n = N ∧ ∃ i', Edge np st' (b.upd x (U i')) ∧ μ i' < μ i
      | e => Q e st') (h0 : Edge np st (b.upd x (U i0))) (hN : st.n = N := by exact rfl) (hl : ∀ i, ltAll N (b.upd x (U i)).tm = true := by exact fun _ => rfl) : LpB b np st body Q := by
  subst hN
  exact ⟨⟨ι, fun i => b.upd x (U i), μ, i0, fun i p hp => ltAll_iff (hl i) p hp, h0, fun i => (forceLS_iff _ _).1 (h i)⟩⟩
structure RgB (b : LS) (P : Program) (np : Nat) (st : St) (f : AV) (ps : List Nat) (round : Nat → St → (Exit → St → Prop) → Prop) (Q : Exit → St → Prop) : Prop where
  h : Rg P np st f ps round Q
def seqA (f : AV) : List AV := match seqOf f with
  | some x => x.2.1
  | none => []
def seqC (f : AV) : List AV := match seqOf f with
  | some x => x.2.2
  | none => []
theorem Rg.snap {P : Program} {np : Nat} {st : St} {f : AV} {ps : List Nat} {round : Nat → St → (Exit → St → Prop) → Prop} {Q : Exit → St → Prop} (ks : List Nat) (fuel : Nat)
    (h : snap (st.frzs (reachs st (seqA f ++ seqC f))) ks fuel fun b => RgB b P np st f ps round Q) : Rg P np st f ps round Q := snap_any (fun _ h => h.h) h
/-- A range over a function: ι what is told of a round, ix how many there were, U the memories that change, x how many new names there are. -/
theorem RgB.go {b : LS} {P : Program} {np : Nat} {st : St} {f : AV} {ps : List Nat} {round : Nat → St → (Exit → St → Prop) → Prop} {Q : Exit → St → Prop} (M : Nat) {N : Nat} {Y : Nat → List DV} (ι : Type) (x : Nat) (U : ι → Nat → List (Nat × Res)) (ix : ι → Nat) (i0 : ι)
    {g : Nat} {A C : List DV} (hq : Seq P g A C N Y)
    (hr : ∀ i k, ix i = k → k < N → forceLS (b.updR x (U i) (some 0)) fun s => round b.nx (putAll (s.st M) ps (Y k)) fun e st' => match e with
      | .normal => st'.gh = some 0 ∧ ∃ i', ix i' = k + 1 ∧ Edge b.nx st' (b.updH x (U i') (some 0))
      | .exit id => ∃ r : Nat × List (Nat × Res), Edge b.nx st' ⟨r.1, [], r.2, some 0⟩ ∧ Q (.exit id) ((⟨r.1, b.tm, r.2, b.gh⟩ : LS).st M)
      | .ret => ∃ r : Nat × List (Nat × Res), Edge b.nx st' ⟨r.1, [], r.2, some 0⟩ ∧ Q .ret ((⟨r.1, b.tm, r.2, b.gh⟩ : LS).st M)
      | _ => False)
    (hd : ∀ i, ix i = N → forceLS (b.updR x (U i) b.gh) fun s => Q .normal (s.st M))
    (he : Edge np (st.frzs (reachs st (seqA f ++ seqC f))) (b.updR x (U i0) b.gh))
    (hs : seqOf f = some (g, seqA f, seqC f) := by exact rfl)
    (hA : (seqA f).map (toDV fuel st.hp) = A := by exact rfl) (hC : (seqC f).map (toDV fuel st.hp) = C := by exact rfl)
    (hok : okDVs st (seqA f ++ seqC f) := by exact Lh)
    (hn : st.n = M := by exact rfl) (hg : st.gh = b.gh := by exact rfl) (ht : ltAll M b.tm = true := by exact rfl) (hl : b.tm.all (fun p => namesLt b.nx p.2) = true := by exact rfl) (hnp : Nat.ble np b.nx = true := by exact rfl)
    (hY : ∀ k, (Y k).length = ps.length := by exact fun _ => rfl) (hps : ps.all (fun p => Nat.blt p M) = true := by exact rfl) (h0 : ix i0 = 0 := by exact rfl) : RgB b P np st f ps round Q := by
  subst hn; subst hA; subst hC
  obtain ⟨nx, tm, hp, gh⟩ := b
  obtain rfl : st.gh = gh := hg
  exact ⟨⟨nx, tm, g, seqA f, seqC f, N, Y, ι, fun i => (nx + x, updL (U i nx) hp), ix, i0, hs, hok, hq, ltAll_iff ht, fun p hp => List.all_eq_true.1 hl p hp, Nat.le_of_ble_eq_true hnp, fun k _ => hY k, fun p hp => blt_iff.1 (List.all_eq_true.1 hps p hp), he, fun i => Nat.le_add_right _ _, h0, fun i hi => (forceLS_iff _ _).1 (hr i _ rfl hi), fun i hi => (forceLS_iff _ _).1 (hd i hi)⟩⟩
/-- Out of a range over a function: the memories that were there before are as they are. -/
structure OutB (hp : List (Nat × Res)) (np : Nat) (st : St) (C : Nat × List (Nat × Res) → Prop) : Prop where
  h : ∃ r : Nat × List (Nat × Res), Edge np st ⟨r.1, [], r.2, some 0⟩ ∧ C r
theorem Out.snap {np : Nat} {st : St} {C : Nat × List (Nat × Res) → Prop} (h : snapH st.hp (List.range np) fun hp => OutB hp np st C) : ∃ r : Nat × List (Nat × Res), Edge np st ⟨r.1, [], r.2, some 0⟩ ∧ C r := snapH_any _ (fun _ h => h.h) h
theorem OutB.go {hp : List (Nat × Res)} {np : Nat} {st : St} {C : Nat × List (Nat × Res) → Prop} (hC : C (np, hp)) (he : Edge np st ⟨np, [], hp, some 0⟩ := by exact Lh) : OutB hp np st C := ⟨⟨(np, hp), he, hC⟩⟩
end Go.Px

/-! PxXe -/
namespace Go.Px
open Go Go.RowKit
theorem Sp.byes {b : Bool} {X Y : Prop} (t : X) (h : b = true := by assumption) : Sp b X Y := by subst h; exact Sp.tt t
theorem Sp.bno {b : Bool} {X Y : Prop} (f : Y) (h : b = false := by assumption) : Sp b X Y := by subst h; exact Sp.ff f
end Go.Px

/-! PxXf -/
namespace Go.Px
open Go Go.RowKit
theorem Ob.ipX {A : Prop} {P : Program} {g : Nat} {args args' : List DV} {U q n n' : Nat} {x x0 x' : Nat → DV} {y : AV} {rest : Prop} (h : FnI P g U q n x x' args y) (hn : n' = n) (hx : ∀ j, j < n → CImp (x0 j) (x j)) (im : DImps args' args) (ok : A) (k : rest) :
    Ob (A ∧ FnI P g U q n' x0 x' args' y) rest := by subst hn; exact ⟨⟨ok, h.imp hx im.imps⟩, fun _ => k⟩
theorem Ob.frX {A : Prop} {P : Program} {g : Nat} {args args' : List DV} {U q n : Nat} {x : Nat → DV} {y : AV} {rest : Prop} (h : FnF P g args U q n x y) (im : DImps args' args) (ok : A) (k : rest) :
    Ob (A ∧ FnF P g args' U q n x y) rest := ⟨⟨ok, h.imp im.imps⟩, fun _ => k⟩
theorem Ob.nwX {A : Prop} {P : Program} {g : Nat} {args args' : List DV} {R : Res} {y : AV} {rest : Prop} (h : FnN P g args R y) (im : DImps args' args) (ok : A) (k : rest) :
    Ob (A ∧ FnN P g args' R y) rest := ⟨⟨ok, h.imp im.imps⟩, fun _ => k⟩
theorem Ob.lnX {A : Prop} {P : Program} {g : Nat} {args args' : List DV} {r : DV} {rest : Prop} (h : Fn P g args r) (nm : NoMp r) (im : DImps args' args) (ok : A) (k : rest) :
    Ob ((A ∧ NoMp r) ∧ Fn P g args' r) rest := ⟨⟨⟨ok, nm⟩, h.imp im.imps (Imp.refl _)⟩, fun _ => k⟩
theorem Ap.a {c : Prop} {off n : Nat} {f g : Nat → DV} {X : Nat → (Nat → DV) → Prop} (z : X 0 (apd n (fun j => f (off + j)) g)) (o : X off (apd (off + n) f g)) (ok : c := by exact Lf) : Ap c off n f g X := ⟨ok, fun _ => z, fun _ => o⟩
end Go.Px

/-! PxFr -/
namespace Go.Px
open Go Go.RowKit
/-- All blocks that there are. -/
def All (w : World) (b : Nat) : Prop := b < w.heap.size
/-- Cells that read as data; a slice among them has a plain address. -/
def Cells (w : World) (xs : List DV) (cs : List Value) : Prop := xs.length = cs.length ∧ ∀ j, j < cs.length → Rep (All w) w (xs.getD j .top) (cs.getD j undef) ∧ (cs.getD j undef).oneCell' = true
def Plain (cs : List Value) : Prop := ∀ v ∈ cs, ∀ a l c, v = .slice (some a) l c → a.spot = none
/-- What of a type reads as data is one of α, encoded by en. -/
def Opn (q : Bool) (P : Program) (t : TypeId) {α : Type} (en : α → List DV) (good : α → Prop) : Prop :=
  ∀ {H : Type} (enc : TypeId × Value → H) (w : World) (base : Nat) (held : Bool) (fuel : Nat) (cs : List Value) (x : DataW H × List MemPlace), DataW.trod enc P w base (fun _ => true) held fuel t cs = some x → (q = true → Plain cs) → ∃ a, good a ∧ Cells w (en a) cs
theorem Opn.int {q : Bool} {P : Program} {t : TypeId} {k : IntKind} (ht : P.underlying t = some (.int k)) : Opn q P t (fun n : Int => [.v (.int k n)]) (fun n => (Lit.int k n).wf = true) := by
  intro H enc w base held fuel cs x h _
  obtain ⟨n, rfl, _, hw⟩ := DataW.trod_int ht h
  refine ⟨n, hw, rfl, fun j hj => ?_⟩
  obtain rfl : j = 0 := by simp at hj; omega
  exact ⟨rfl, rfl⟩
theorem Opn.bool {q : Bool} {P : Program} {t : TypeId} (ht : P.underlying t = some .bool) : Opn q P t (fun b : Bool => [.v (.bool b)]) (fun _ => True) := by
  intro H enc w base held fuel cs x h _
  obtain ⟨b, rfl, _⟩ := DataW.trod_bool ht h
  refine ⟨b, trivial, rfl, fun j hj => ?_⟩
  obtain rfl : j = 0 := by simp at hj; omega
  exact ⟨rfl, rfl⟩
/-- An element of a slice, as data. -/
def elD : List DV → DV
  | [x] => x
  | l => st l
theorem mapM_some_getD {α β : Type} {f : α → Option β} : ∀ {l : List α} {r : List β}, l.mapM f = some r → r.length = l.length ∧ ∀ j, (hj : j < l.length) → f l[j] = r[j]?
  | [], r, h => by simp at h; subst h; simp
  | a :: l, r, h => by
    rw [List.mapM_cons] at h
    simp only [Option.bind_eq_bind, Option.bind_eq_some_iff, Option.pure_def, Option.some.injEq] at h
    obtain ⟨b, hb, r', hr, rfl⟩ := h
    obtain ⟨h1, h2⟩ := mapM_some_getD hr
    refine ⟨by simp [h1], fun j hj => ?_⟩
    cases j with
    | zero => simpa using hb
    | succ j => simpa using h2 j (by simpa using hj)
theorem cells_each {w : World} {base : Nat} {a : Addr} {n : Nat} {cs : List Value} (h : w.cells? base a n = some cs) : cs.length = n ∧ ∀ j, j < n → w.cell? (a.add j) = some (cs.getD j undef) := by
  unfold World.cells? at h
  split at h
  · obtain ⟨h1, h2⟩ := mapM_some_getD h
    rw [List.length_range] at h1
    refine ⟨h1, fun j hj => ?_⟩
    have := h2 j (by simpa using hj)
    rw [List.getElem_range] at this
    rw [this, List.getD_eq_getElem?_getD, List.getElem?_eq_getElem (by omega)]; rfl
  · cases h
theorem add_off {a : Addr} (h : a.spot = none) (n : Nat) : a.add n = ⟨a.block, a.off + n, none⟩ := by
  unfold Addr.add
  split
  · rename_i e; subst e; cases a; simp at h; simp [h]
  · rfl
theorem add_add {b o : Nat} (i j : Nat) : (⟨b, o + i, none⟩ : Addr).add j = ⟨b, o + i + j, none⟩ := add_off rfl j
/-- Data of one cell that memory can hold. -/
def Cel : DV → Prop
  | .v _ => True
  | .sl .. => True
  | _ => False
theorem Cel.mem {S : Nat → Prop} {w : World} {x : DV} (h : Cel x) {b o : Nat} {u : Value} (hb : S b) (hu : w.cell? ⟨b, o, none⟩ = some u) (hx : Rep S w x u) (h1 : u.oneCell' = true) : RepM S w x b o := by
  cases x with
  | v y => exact ⟨hb, u, hu, hx, h1⟩
  | sl t k n f => exact ⟨hb, u, hu, hx, h1⟩
  | _ => exact h.elim
theorem elD_mem {w : World} {xs : List DV} {b o : Nat} {cs : List Value} (h0 : 0 < xs.length) (hc : ∀ x ∈ xs, Cel x) (hb : b < w.heap.size) (h : Cells w xs cs) (hm : ∀ j, j < cs.length → w.cell? ⟨b, o + j, none⟩ = some (cs.getD j undef)) : RepM (All w) w (elD xs) b o := by
  match xs, h0 with
  | [x], _ =>
    have hl : cs.length = 1 := h.1.symm
    have := h.2 0 (by omega)
    have hm0 := hm 0 (by omega)
    exact (hc x (by simp)).mem hb (by simpa using hm0) (by simpa using this.1) this.2
  | x :: y :: l, _ =>
    intro j hj
    have hl : cs.length = (x :: y :: l).length := h.1.symm
    have hj' : j < cs.length := by rw [hl]; exact hj
    have := h.2 j hj'
    exact ⟨hb, _, hm j hj', this.1, this.2⟩
theorem cell_lt {w : World} {a : Addr} {v : Value} (h : w.cell? a = some v) : a.block < w.heap.size := by
  unfold World.cell? at h
  split at h
  · rename_i hh; exact (Array.getElem?_eq_some_iff.1 hh).1
  · cases h
/-- A slice of what reads so; the cells of an element hold no slices. -/
theorem Opn.slice {q : Bool} {P : Program} {t e : TypeId} {α : Type} {en : α → List DV} {good : α → Prop} {k : Nat} (ht : P.underlying t = some (.slice e)) (hk : P.cellsOf e = k) (hk0 : 0 < k) (hlen : ∀ a, (en a).length = k)
    (hcell : ∀ a, ∀ x ∈ en a, Cel x) (d : α) (he : Opn false P e en good) :
    Opn q P t (fun l : List α => [slOf k (fun a => elD (en a)) d l]) (fun l => (∀ a ∈ l, good a) ∧ l.length ≤ maxLen) := by
  intro H enc w base held fuel cs x h hp
  rcases DataW.trod_slice ht h with ⟨rfl, _⟩ | ⟨a, len, cap, elems, rest, n, _, rfl, _, hb, hl, hm, hlen', hel, _, _⟩
  · refine ⟨[], ⟨by simp, by simp⟩, rfl, fun j hj => ?_⟩
    obtain rfl : j = 0 := by simp at hj; omega
    refine ⟨⟨none, 0, rfl, Nat.le_refl _, (fun e => by cases e), fun _ => rfl, fun x e => by cases e⟩, rfl⟩
  have hspot : 0 < len → a.spot = none := by
    intro h0
    have h1 := hel 0 h0
    rw [List.getElem?_eq_getElem (by omega), Option.bind_eq_some_iff] at h1
    obtain ⟨cs, h2, h3⟩ := h1
    obtain ⟨c1, c2⟩ := cells_each h2
    rw [hk] at c1 c2
    have := c2 0 (by omega)
    have e : (a.add (0 * k)).add 0 = a := by unfold Addr.add; simp
    rw [e] at this
    unfold World.cell? at this
    split at this
    · split at this
      · cases this
      · rename_i hs; cases hh : a.spot with
        | none => rfl
        | some s => rw [hh] at hs; exact absurd rfl hs
    · cases this
  have each : ∀ i, i < len → ∃ y, good y ∧ RepM (All w) w (elD (en y)) a.block (a.off + i * k) := by
    intro i hi
    have hsp := hspot (by omega)
    have h1 := hel i hi
    rw [List.getElem?_eq_getElem (by omega), Option.bind_eq_some_iff] at h1
    obtain ⟨cs, h2, h3⟩ := h1
    obtain ⟨c1, c2⟩ := cells_each h2
    obtain ⟨y, hg, hy⟩ := he enc w base held n cs _ h3 (fun e => by cases e)
    rw [hk] at c1 c2
    have hc : ∀ j, j < cs.length → w.cell? ⟨a.block, a.off + i * k + j, none⟩ = some (cs.getD j undef) := fun j hj => by
      have := c2 j (by omega)
      rw [add_off hsp, add_add] at this
      exact this
    have hbl : a.block < w.heap.size := cell_lt (a := ⟨a.block, _, none⟩) (hc 0 (by omega))
    exact ⟨y, hg, elD_mem (by rw [hlen]; exact hk0) (hcell y) hbl hy hc⟩
  have : ∃ l : List α, l.length = len ∧ (∀ y ∈ l, good y) ∧ ∀ i, i < len → RepM (All w) w (elD (en (l.getD i d))) a.block (a.off + i * k) := by
    clear hel hlen' hp h
    have gen : ∀ m, m ≤ len → ∃ l : List α, l.length = m ∧ (∀ y ∈ l, good y) ∧ ∀ i, i < m → RepM (All w) w (elD (en (l.getD i d))) a.block (a.off + i * k) := by
      intro m
      induction m with
      | zero => exact fun _ => ⟨[], rfl, by simp, by simp⟩
      | succ m ih =>
        intro hm'
        obtain ⟨l, h1, h2, h3⟩ := ih (by omega)
        obtain ⟨y, hg, hy⟩ := each m (by omega)
        refine ⟨l ++ [y], by simp [h1], fun z hz => ?_, fun i hi => ?_⟩
        · rcases List.mem_append.1 hz with hz | hz
          · exact h2 z hz
          · rw [List.mem_singleton.1 hz]; exact hg
        · by_cases e : i < m
          · have : (l ++ [y]).getD i d = l.getD i d := by rw [List.getD_eq_getElem?_getD, List.getD_eq_getElem?_getD, List.getElem?_append_left (by omega)]
            rw [this]; exact h3 i e
          · obtain rfl : i = m := by omega
            have : (l ++ [y]).getD i d = y := by rw [List.getD_eq_getElem?_getD, List.getElem?_append_right (by omega), h1]; simp
            rw [this]; exact hy
    exact gen len (Nat.le_refl _)
  obtain ⟨l, rfl, hg, hr⟩ := this
  refine ⟨l, ⟨hg, by omega⟩, rfl, fun j hj => ?_⟩
  obtain rfl : j = 0 := by simp at hj; omega
  refine ⟨⟨some a, cap, rfl, hl, (fun e => by cases e), (fun e => by cases e), fun x e i hi => ?_⟩, rfl⟩
  cases e; exact ⟨hspot (by omega), hr i hi⟩
/-- Cells one part behind the other, each read as its type. -/
def TrodL {H : Type} (enc : TypeId × Value → H) (P : Program) (w : World) (base : Nat) (held : Bool) (n : Nat) : List TypeId → List Value → Prop
  | [], cs => cs = []
  | t :: l, cs => P.cellsOf t ≤ cs.length ∧ (∃ x, DataW.trod enc P w base (fun _ => true) held n t (cs.take (P.cellsOf t)) = some x) ∧ TrodL enc P w base held n l (cs.drop (P.cellsOf t))
/-- Fields lie one behind the other. -/
def contig (P : Program) : Nat → List Field → Nat → Bool
  | o, [], e => Nat.beq o e
  | o, f :: l, e => Nat.beq f.offset o && contig P (o + P.cellsOf f.type) l e
theorem contig_le {P : Program} : ∀ {l : List Field} {o e : Nat}, contig P o l e = true → o ≤ e
  | [], o, e, h => Nat.le_of_eq (Nat.eq_of_beq_eq_true h)
  | f :: l, o, e, h => by
    simp only [contig, Bool.and_eq_true] at h
    have := contig_le h.2
    omega
theorem struct_trodL {H : Type} {enc : TypeId × Value → H} {P : Program} {w : World} {base : Nat} {held : Bool} {n : Nat} {cs : List Value} : ∀ {l : List Field} {o : Nat}, contig P o l cs.length = true →
    (∀ f ∈ l, ∃ x, DataW.trod enc P w base (fun _ => true) held n f.type ((cs.drop f.offset).take (P.cellsOf f.type)) = some x) → TrodL enc P w base held n (l.map (·.type)) (cs.drop o)
  | [], o, h, _ => by
    have := Nat.eq_of_beq_eq_true h
    rw [this]; exact List.drop_length ..
  | f :: l, o, h, hx => by
    simp only [contig, Bool.and_eq_true] at h
    obtain rfl := Nat.eq_of_beq_eq_true h.1
    have hle := contig_le h.2
    refine ⟨by rw [List.length_drop]; show P.cellsOf f.type ≤ _; omega, hx f (by simp), ?_⟩
    rw [List.drop_drop]
    exact struct_trodL h.2 fun g hg => hx g (by simp [hg])
def OpnL (q : Bool) (P : Program) (l : List TypeId) {α : Type} (en : α → List DV) (good : α → Prop) : Prop :=
  ∀ {H : Type} (enc : TypeId × Value → H) (w : World) (base : Nat) (held : Bool) (n : Nat) (cs : List Value), TrodL enc P w base held n l cs → (q = true → Plain cs) → ∃ a, good a ∧ Cells w (en a) cs
theorem OpnL.nil {q : Bool} {P : Program} : OpnL q P [] (fun _ : Unit => []) (fun _ => True) := by
  intro H enc w base held n cs h _
  have h : cs = [] := h
  subst h
  exact ⟨(), trivial, rfl, fun j hj => absurd hj (Nat.not_lt_zero j)⟩
theorem Cells.app {w : World} {xs ys : List DV} {cs : List Value} {k : Nat} (hk : k ≤ cs.length) (h : Cells w xs (cs.take k)) (h' : Cells w ys (cs.drop k)) : Cells w (xs ++ ys) cs := by
  obtain ⟨h1, h2⟩ := h
  obtain ⟨h3, h4⟩ := h'
  rw [List.length_take, Nat.min_eq_left hk] at h1 h2
  rw [List.length_drop] at h3 h4
  refine ⟨by simp; omega, fun j hj => ?_⟩
  by_cases e : j < k
  · have := h2 j e
    rw [show (xs ++ ys).getD j .top = xs.getD j .top by rw [List.getD_eq_getElem?_getD, List.getD_eq_getElem?_getD, List.getElem?_append_left (by omega)]]
    rw [show (cs.take k).getD j undef = cs.getD j undef by rw [List.getD_eq_getElem?_getD, List.getD_eq_getElem?_getD, List.getElem?_take, if_pos e]] at this
    exact this
  · have := h4 (j - k) (by omega)
    rw [show (xs ++ ys).getD j .top = ys.getD (j - k) .top by rw [List.getD_eq_getElem?_getD, List.getD_eq_getElem?_getD, List.getElem?_append_right (by omega), h1]]
    rw [show (cs.drop k).getD (j - k) undef = cs.getD j undef by rw [List.getD_eq_getElem?_getD, List.getD_eq_getElem?_getD, List.getElem?_drop, show k + (j - k) = j by omega]] at this
    exact this
theorem Plain.take {cs : List Value} (h : Plain cs) (k : Nat) : Plain (cs.take k) := fun v hv => h v (List.mem_of_mem_take hv)
theorem Plain.drop {cs : List Value} (h : Plain cs) (k : Nat) : Plain (cs.drop k) := fun v hv => h v (List.mem_of_mem_drop hv)
theorem OpnL.cons {q : Bool} {P : Program} {t : TypeId} {l : List TypeId} {α β : Type} {en : α → List DV} {good : α → Prop} {en' : β → List DV} {good' : β → Prop} (h : Opn q P t en good) (h' : OpnL q P l en' good') :
    OpnL q P (t :: l) (fun p : α × β => en p.1 ++ en' p.2) (fun p => good p.1 ∧ good' p.2) := by
  intro H enc w base held n cs ⟨hk, ⟨x, hx⟩, hr⟩ hp
  obtain ⟨a, ha, ca⟩ := h enc w base held n _ x hx (fun e => (hp e).take _)
  obtain ⟨b, hb, cb⟩ := h' enc w base held n _ hr (fun e => (hp e).drop _)
  exact ⟨(a, b), ⟨ha, hb⟩, ca.app hk cb⟩
theorem Opn.struct {q : Bool} {P : Program} {t : TypeId} {fs : Array Field} {α : Type} {en : α → List DV} {good : α → Prop} (ht : P.underlying t = some (.struct fs)) (hc : contig P 0 fs.toList (P.cellsOf t) = true) (h : OpnL q P (fs.toList.map (·.type)) en good) : Opn q P t en good := by
  intro H enc w base held fuel cs x hx hp
  obtain ⟨xs, n, _, _, hl, hxl, hf⟩ := DataW.trod_struct ht hx
  refine h enc w base held n cs ?_ hp
  have := struct_trodL (enc := enc) (P := P) (w := w) (base := base) (held := held) (n := n) (cs := cs) (l := fs.toList) (o := 0) (by rw [hl]; exact hc) fun f hf' => by
    obtain ⟨i, hi, rfl⟩ := List.getElem_of_mem hf'
    have h1 := hf i fs.toList[i] (by simp at hi; simp [hi])
    rw [List.getElem?_eq_getElem (by simp at hi; omega)] at h1
    exact ⟨_, h1⟩
  simpa using this
theorem Opn.map {q : Bool} {P : Program} {t : TypeId} {α β : Type} {en : α → List DV} {good : α → Prop} {en' : β → List DV} {good' : β → Prop} (h : Opn q P t en good) (f : α → β) (hf : ∀ a, good a → en' (f a) = en a ∧ good' (f a)) : Opn q P t en' good' := by
  intro H enc w base held fuel cs x hx hp
  obtain ⟨a, ha, ca⟩ := h enc w base held fuel cs x hx hp
  obtain ⟨h1, h2⟩ := hf a ha
  exact ⟨f a, h2, h1 ▸ ca⟩
/-- An argument: a value, or a struct. -/
theorem Opn.arg {q : Bool} {P : Program} {t : TypeId} {α : Type} {en : α → List DV} {good : α → Prop} (h : Opn q P t en good) {H : Type} {enc : TypeId × Value → H} {w : World} {v : Value} {d : DataW H} {ps : List MemPlace} (hv : DataW.Trod enc P w 0 (fun _ => true) true t v d ps) (hp : q = true → Plain v.cells.toList) :
    ∃ a, good a ∧ Cells w (en a) v.cells.toList := by
  obtain ⟨fuel, hf⟩ := hv
  exact h enc w 0 true fuel _ _ hf hp
theorem Cells.one {w : World} {x : DV} {v : Value} (h : Cells w [x] v.cells.toList) (hv : v.cells = #[v]) : Rep (All w) w x v := by
  have := (h.2 0 (by rw [hv]; simp)).1
  rw [hv] at this
  simpa using this
theorem Cells.st {w : World} {xs : List DV} {cs : Array Value} (h : Cells w xs cs.toList) : Rep (All w) w (st xs) (.agg cs) :=
  ⟨cs, rfl, by have := h.1; simp at this; exact this.symm, fun j hj => by
    have := h.2 j (by rw [← h.1]; exact hj)
    simpa [Array.getD_eq_getD_getElem?, List.getD_eq_getElem?_getD, Rep] using this⟩
theorem plain_cell {P : Program} {w : World} {base : Nat} {t : TypeId} {v : Value} (h : Cell.okWide P w .any base t v) : ∀ a l c, v = .slice (some a) l c → a.spot = none := by
  rintro a l c rfl
  have h2 : Cell.ok P w .any base t (.slice (some a) l c) := by
    unfold Cell.okWide at h
    split at h <;> first | contradiction | exact h
  unfold Cell.ok at h2
  split at h2
  all_goals first | exact h2.elim | contradiction | skip
  all_goals
    rename_i heq1 heq2
    injection heq2 with e1 e2 e3
    first
      | (cases e1; done)
      | (injection e1 with e1; rw [e1]; exact h2.2.2.2.1)
theorem plain_row {P : Program} {w : World} {base : Nat} {t : TypeId} {cs : Array Value} (h : Row.okWide P w .any base t cs) : Plain (Value.agg cs).cells.toList := by
  intro v hv
  obtain ⟨ts, _, _, hr⟩ := h
  obtain ⟨i, hi, rfl⟩ := List.getElem_of_mem hv
  have hi1 : i < (Value.agg cs).cells.size := by simpa using hi
  have hi' : i < cs.size := hi1
  obtain ⟨u, _, hu⟩ := hr i cs[i] (by simp [hi'])
  exact plain_cell hu
theorem plain_slice {P : Program} {w : World} {base : Nat} {t e : TypeId} {v : Value} (ht : P.underlying t = some (.slice e)) (h : Value.okWide P w .any base t v) : Plain v.cells.toList := by
  simp only [Value.okWide, ht] at h
  intro x hx a l c e
  subst e
  have : v.cells.toList = [v] := by
    unfold Cell.okWide Cell.ok at h
    rw [ht] at h
    cases v <;> first | rfl | (simp at h; done)
  rw [this, List.mem_singleton] at hx
  exact plain_cell (hx ▸ h) a l c rfl
end Go.Px
