/- Texts of this proof, joined (PxN, PxO, PxP, PxP2, PxQ, PxR, PxU, PxV): a small program logic over the model, and what functions of the program give. No statement of the seat is proved here. -/
import Derived.Test.YtofcdpkanjiefaaJ1
import Derived.MapKept
import Derived.Maps.RangeRun
set_option linter.unusedVariables false
set_option linter.unusedSimpArgs false

/-! PxN -/
noncomputable section
namespace Go.Px
open Go Go.RowKit
theorem set_set (st : St) (id : Nat) (x y : Option Res) : (st.set id x).set id y = st.set id y := by
  unfold St.set
  simp only [St.mk.injEq, true_and, and_true]
  funext j
  cases hb : Nat.beq j id <;> simp [hb]
def news (n : Nat) (N : Nat → Value) : List Value := (List.range n).map N
theorem news_len (n : Nat) (N : Nat → Value) : (news n N).length = n := by simp [news]
theorem news_get (n : Nat) (N : Nat → Value) {j : Nat} {v : Value} (h : (news n N)[j]? = some v) : j < n ∧ v = N j := by
  unfold news at h
  rw [List.getElem?_map] at h
  by_cases hj : j < n
  · rw [List.getElem?_range hj] at h; simp only [Option.map_some, Option.some.injEq] at h; exact ⟨hj, h.symm⟩
  · rw [List.getElem?_eq_none (by simpa using hj)] at h; cases h
theorem els_one {S : Nat → Prop} {W : World} {k n : Nat} {f : Nat → DV} {N : Nat → Value} (hk : 0 < k) (h : Els S W k n f N) {j : Nat} (hj : j < n * k) : (N j).oneCell' = true := by
  have hd : j / k < n := Nat.div_lt_of_lt_mul (by rw [Nat.mul_comm]; exact hj)
  have := (h (j / k) hd).2 (j % k) (Nat.mod_lt _ hk)
  rw [Nat.mul_comm, Nat.div_add_mod] at this
  exact this
theorem els_join {S : Nat → Prop} {W : World} {k n m : Nat} {f g : Nat → DV} {N M : Nat → Value} (hf : Els S W k n f N) (hg : Els S W k m g M) (z : Array Value) :
    Els S W k (n + m) (fun j => if j < n then f j else g (j - n)) (fun j => ((news (n * k) N).toArray ++ (news (m * k) M).toArray ++ z).getD j undef) := by
  intro j hj
  have hval : ∀ q, q < k → ((news (n * k) N).toArray ++ (news (m * k) M).toArray ++ z).getD (j * k + q) undef = if j < n then N (j * k + q) else M ((j - n) * k + q) := by
    intro q hq
    rw [Array.getD_eq_getD_getElem?, Array.getElem?_append_left (by
      have := mul_lt hj hq
      rw [Array.size_append, List.size_toArray, List.size_toArray, news_len, news_len, ← Nat.add_mul]; exact this)]
    by_cases h1 : j < n
    · rw [if_pos h1, Array.getElem?_append_left (by rw [List.size_toArray, news_len]; exact mul_lt h1 hq), List.getElem?_toArray, news, List.getElem?_map, List.getElem?_range (mul_lt h1 hq)]; rfl
    · have h2 : n * k ≤ j * k := Nat.mul_le_mul_right _ (by omega)
      have h3 : (j - n) * k + q < m * k := mul_lt (by omega) hq
      have h4 : j * k + q - n * k = (j - n) * k + q := by rw [Nat.sub_mul]; omega
      rw [if_neg h1, Array.getElem?_append_right (by rw [List.size_toArray, news_len]; omega), List.size_toArray, news_len, h4, List.getElem?_toArray, news, List.getElem?_map, List.getElem?_range h3]; rfl
  by_cases h1 : j < n
  · simp only [if_pos h1] at hval ⊢
    obtain ⟨h2, h3⟩ := hf j h1
    exact ⟨h2.congr fun q hq => hval q hq, fun q hq => (congrArg Value.oneCell' (hval q hq)).trans (h3 q hq)⟩
  · simp only [if_neg h1] at hval ⊢
    obtain ⟨h2, h3⟩ := hg (j - n) (by omega)
    exact ⟨h2.congr fun q hq => hval q hq, fun q hq => (congrArg Value.oneCell' (hval q hq)).trans (h3 q hq)⟩
section
variable {P : Program} {T : Nat → Option TI} {B : Base} {Fr : Nat → Prop} {E : Env} {st : St} {a : Act} {W : World}
theorem Sat.upd (h : Sat B Fr E st a W) {id : Nat} {r : Res} (hn : st.hp id ≠ none) (hr : SatR B E W id r) : Sat B Fr E (st.set id (some r)) a W := by
  have hl : ∀ i, (st.set id (some r)).hp i ≠ none → st.hp i ≠ none := fun i hi => by
    by_cases e : i = id
    · rw [e]; exact hn
    · rw [set_hp_other st _ e] at hi; exact hi
  refine ⟨h.size, h.tm, fun i r' hi => ?_, fun i j b hi hj h1 h2 => h.dist i j b (hl i hi) (hl j hj) h1 h2, h.fr, h.sub, h.sup, h.s0, h.df, h.dn, h.dd, h.g, h.r0⟩
  by_cases e : i = id
  · subst e; rw [set_hp_self] at hi; cases hi; exact hr
  · rw [set_hp_other st _ e] at hi; exact h.hp i r' hi
theorem append_zero {t e ty : Nat} {ti te : TI} (hk : TOk P ti t) (hke : TOk P te e) (hd : ti.d = .slice e) {n cap : Nat} {ao : Option Addr} (hn : n ≤ cap) {ax : Option Addr} {cx : Nat} :
    (Builtin.append_ #[t, t] ty #[.slice ao n cap, .slice ax 0 cx]).run P W = .ok (.slice ao n cap) W := by
  have hu := hk.u
  rw [hd] at hu
  have hf : (Builtin.firstCells te.size 0 (.slice ax 0 cx)).run P W = .ok #[] W := by
    cases ax with
    | none => simp [Builtin.firstCells]
    | some b => have := run_firstCells_some (P := P) W te.size 0 b 0 cx [] (by simp) (by simp); exact this
  obtain ⟨inf, hi, hz, hs, hbb⟩ := hke.info
  cases ao with
  | none => simp [Builtin.append_, run_underlying hu, Go.sizeOf, typeInfo, hi, hs, Builtin.lenOf, hn, hf]
  | some b => simp [Builtin.append_, run_underlying hu, Go.sizeOf, typeInfo, hi, hs, Builtin.lenOf, hn, hf, storeCells]
/-- A new array: what was there and what is appended. -/
theorem append_new (h : Sat B Fr E st a W) {i : Nat} (hf : Fr i) {ρ : Operand → Value} {o : Oper} {e k n m cap : Nat} {f g : Nat → DV} {N M : Nat → Value} (hk : 0 < k) (hN : Els E.S W k n f N) (hM : Els E.S W k m g M) {z : Value} (hzs : z.cells.size = k)
    (hcap : n + m ≤ cap) (hcm : cap ≤ maxLen)
    (hrun : (execOp ρ o).run P W = .ok (.value (.slice (some ⟨W.heap.size, 0, none⟩) (n + m) cap)) (W.drew.alloc (.cells ((news (n * k) N).toArray ++ (news (m * k) M).toArray ++ Builtin.zeroCells z.cells (cap - (n + m))) e (0, 0)))) :
    Made P B Fr i (st.set i (some (.row true e k (n + m) fun j => if j < n then f j else g (j - n)))) a W ρ o (.ms i k 0 (n + m)) := by
  have hsz : ((news (n * k) N).toArray ++ (news (m * k) M).toArray ++ Builtin.zeroCells z.cells (cap - (n + m))).size = cap * k := by
    rw [Array.size_append, Array.size_append, List.size_toArray, List.size_toArray, news_len, news_len, size_zeroCells, hzs, ← Nat.add_mul, ← Nat.add_mul]
    congr 1; omega
  have hd := h.drew
  have hN' : Els E.S W.drew k n f N := fun j hj => ⟨(hN j hj).1.ev (E := E) (E' := E) (W' := W.drew) (Ev.below h.S_lt (Below.refl _ W).drew), (hN j hj).2⟩
  have hM' : Els E.S W.drew k m g M := fun j hj => ⟨(hM j hj).1.ev (E := E) (E' := E) (W' := W.drew) (Ev.below h.S_lt (Below.refl _ W).drew), (hM j hj).2⟩
  have hj := els_join hN' hM' (Builtin.zeroCells z.cells (cap - (n + m)))
  have hnew := new_row (U := e) hd hf (c := (news (n * k) N).toArray ++ (news (m * k) M).toArray ++ Builtin.zeroCells z.cells (cap - (n + m))) (k := k) (n := n + m) (f := fun j => if j < n then f j else g (j - n)) (by rw [hsz]; exact Nat.mul_le_mul_right _ hcap) (fun j hjj => hj j hjj)
  exact ⟨_, _, _, _, hrun, .inl rfl, hd.new hf hnew, .inr ⟨W.heap.size, 0, cap, _, e, env_set_self _ _ _, rfl, hcap, hcm, new_heap _ _, .inl ⟨by simp, by rw [hsz]; simp⟩⟩⟩
theorem append_run {ρ : Operand → Value} {o : Oper} {s x : Operand} {t : Nat} (ho : o.op = .call { callee := .builtin .append, args := #[s, x], argTypes := #[t, t] }) {v : Value} {W' : World} (h : (Builtin.append_ #[t, t] o.type #[ρ s, ρ x]).run P W = .ok v W') :
    (execOp ρ o).run P W = .ok (.value v) W' := by
  simp only [execOp, ho, resolve, invoke, builtin, Sem.run_bind, Sem.run_pure, Result.andThen_ok, List.map_toArray, List.map_cons, List.map_nil, h]
/-- An append that makes a new array. -/
theorem append_grows (h : Sat B Fr E st a W) {i : Nat} (hf : Fr i) {ρ : Operand → Value} {o : Oper} {s x : Operand} {t e : Nat} {ti te : TI} (ht : TOk P ti t) (he : TOk P te e) (hd : ti.d = .slice e)
    (ho : o.op = .call { callee := .builtin .append, args := #[s, x], argTypes := #[t, t] }) (hby : te.bytes ≤ 1048576) (hk : 0 < te.size) {n m cap capx : Nat} {f g : Nat → DV} {N M : Nat → Value} (hN : Els E.S W te.size n f N) (hM : Els E.S W te.size m g M)
    {ao ax : Option Addr} (hs : ρ s = .slice ao n cap) (hx : ρ x = .slice ax m capx) (hm : 0 < m) (hgrow : cap < n + m) (hlim : n + m ≤ 1048576) (hnil : ao = none → n = 0 ∧ cap = 0)
    (hao : n ≠ 0 → ∃ b p, ao = some ⟨b, p, none⟩ ∧ ∀ j, j < n * te.size → W.cell? ⟨b, p + j, none⟩ = some (N j)) (hax : m ≠ 0 → ∃ b p, ax = some ⟨b, p, none⟩ ∧ ∀ j, j < m * te.size → W.cell? ⟨b, p + j, none⟩ = some (M j)) :
    Made P B Fr i (st.set i (some (.row true e te.size (n + m) fun j => if j < n then f j else g (j - n)))) a W ρ o (.ms i te.size 0 (n + m)) := by
  obtain ⟨inf, hi, hz, hsz, hbb⟩ := he.info
  have hu := ht.u
  rw [hd] at hu
  obtain ⟨bx, px, rfl, hcx⟩ := hax (by omega)
  have hadd : ∀ (b p j : Nat), (⟨b, p, none⟩ : Addr).add j = ⟨b, p + j, none⟩ := fun b p j => by unfold Addr.add; split <;> simp_all
  have hnews : ∀ j v, (news (m * te.size) M)[j]? = some v → W.cell? ((⟨bx, px, none⟩ : Addr).add j) = some v := fun j v hj => by
    obtain ⟨h1, rfl⟩ := news_get _ _ hj
    rw [hadd]; exact hcx j h1
  have hbytes : (n + m) * inf.bytes ≤ 140737488355328 := by
    rw [hbb]
    have h1 : (n + m) * te.bytes ≤ 1048576 * te.bytes := Nat.mul_le_mul_right _ hlim
    have h2 : 1048576 * te.bytes ≤ 1048576 * 1048576 := Nat.mul_le_mul_left _ hby
    omega
  have hcap1 := grownCap_ge W (n + m) cap e
  have hcap2 := grownCap_le_maxLen W (n + m) cap e (by unfold maxLen; omega)
  cases ao with
  | none =>
    obtain ⟨rfl, rfl⟩ := hnil rfl
    have hr := run_append_nil (P := P) W t o.type e inf te.z hu hi hz ⟨bx, px, none⟩ m capx (news (m * te.size) M) (by rw [news_len, hsz]) hnews hm (by omega) (by rw [Nat.zero_add] at hbytes; omega)
    refine append_new h hf hk hN hM he.zs (by simpa using hcap1) (by simpa using hcap2) (append_run ho ?_)
    rw [hs, hx, hr]
    simp [news]
  | some ad =>
    have holds : ∀ j v, (news (n * te.size) N)[j]? = some v → W.cell? (ad.add j) = some v := fun j v hj => by
      obtain ⟨h1, rfl⟩ := news_get _ _ hj
      have hn0 : n ≠ 0 := by rintro rfl; simp at h1
      obtain ⟨b, p, e1, h2⟩ := hao hn0
      cases e1
      rw [hadd]; exact h2 j h1
    have hr := run_append_grow (P := P) W t o.type e inf te.z hu hi hz ad n cap (news (n * te.size) N) (by rw [news_len, hsz]) holds ⟨bx, px, none⟩ m capx (news (m * te.size) M) (by rw [news_len, hsz]) hnews hgrow (by omega) (growslice_fits hgrow hbytes)
    refine append_new h hf hk hN hM he.zs hcap1 hcap2 (append_run ho ?_)
    rw [hs, hx, hr]
theorem append_sound (hT : TsOk P T) (h : Sat B Fr E st a W) {i : Nat} (hf : Fr i) {ρ : Operand → Value} (hev : ∀ x, RepA E W (st.ev x) (ρ x)) (o : Oper) {s x : Operand} {t : Nat} (ho : o.op = .call { callee := .builtin .append, args := #[s, x], argTypes := #[t, t] }) {c : Prop} {y : AV} {st' : St}
    (hv : appendV T i t (st.ev s) (st.ev x) st = some (c, y, st')) (hc : c) : Made P B Fr i st' a W ρ o y := by
  unfold appendV at hv
  cases ht : T t with
  | none => rw [ht] at hv; cases hv
  | some ti =>
    rw [ht] at hv
    simp only [] at hv
    split at hv
    · rename_i e hd
      cases he : T e with
      | none => rw [he] at hv; cases hv
      | some te =>
        rw [he] at hv
        simp only [] at hv
        cases hb : (Nat.ble te.bytes 1048576 && Nat.blt 0 te.size) with
        | false => rw [hb] at hv; cases hv
        | true =>
          rw [hb] at hv
          simp only [cond_true] at hv
          rw [Bool.and_eq_true] at hb
          have hby := Nat.le_of_ble_eq_true hb.1
          have hpos := blt_iff.1 hb.2
          have hkt := hT t ti ht
          have hke := hT e te he
          cases hsrc : srcV st te.size (st.ev x) with
          | none => rw [hsrc] at hv; cases hv
          | some p =>
            obtain ⟨cx, m, g⟩ := p
            rw [hsrc] at hv
            simp only [] at hv
            split at hv
            · rename_i id k off n e1
              split at hv
              · rename_i U k' n' f hid
                cases hb2 : (Nat.beq off 0 && Nat.beq k te.size && Nat.beq k' te.size && Nat.beq U e) with
                | false => rw [hb2] at hv; cases hv
                | true =>
                  rw [hb2] at hv
                  simp only [cond_true, Option.some.injEq, Prod.mk.injEq] at hv
                  obtain ⟨rfl, rfl, rfl⟩ := hv
                  simp only [Bool.and_eq_true] at hb2
                  obtain rfl := Nat.eq_of_beq_eq_true hb2.1.1.1
                  obtain rfl := Nat.eq_of_beq_eq_true hb2.1.1.2
                  have hk' := Nat.eq_of_beq_eq_true hb2.1.2
                  obtain rfl := Nat.eq_of_beq_eq_true hb2.2
                  subst hk'
                  obtain ⟨hcx, rfl, hlim⟩ := hc
                  obtain ⟨ax, capx, hux, M, hM, hax⟩ := src_sound h hpos (hev x) hsrc hcx
                  have hs0 := hev s
                  rw [e1] at hs0
                  have hrow := h.hp id _ hid
                  -- what is there, as elements
                  have hshape : ∃ ao cap, ρ s = .slice ao n' cap ∧ n' ≤ cap ∧ (ao = none → n' = 0 ∧ cap = 0) := by
                    rcases hs0 with ⟨_, rfl, hr⟩ | ⟨b, p, cap, cc, U', _, hr, hn, _⟩
                    · exact ⟨none, 0, hr, Nat.le_refl _, fun _ => ⟨rfl, rfl⟩⟩
                    · exact ⟨_, cap, hr, hn, by simp⟩
                  by_cases hm : m = 0
                  · subst hm
                    obtain ⟨ao, cap, hr, hn, _⟩ := hshape
                    have hrun := append_run (P := P) (W := W) (ρ := ρ) ho (v := .slice ao n' cap) (W' := W) (by rw [hr, hux]; exact append_zero hkt hke hd hn)
                    have hun : E.ρ id ≠ .un := by
                      rcases hrow with ⟨h1, _⟩ | ⟨b, cc, h1, _⟩ <;> rw [h1] <;> simp
                    have hr' : SatR B E W id (.row true U te.size (n' + 0) fun j => if j < n' then f j else g (j - n')) := by
                      rcases hrow with ⟨h1, h2⟩ | ⟨b, cc, h1, h2, h3, h4, h5⟩
                      · exact .inl ⟨h1, h2⟩
                      · exact .inr ⟨b, cc, h1, h2, h3, h4, fun j hj => by simp only [if_pos (show j < n' from hj)]; exact h5 j hj⟩
                    have hu := h.upd (r := .row true U te.size (n' + 0) fun j => if j < n' then f j else g (j - n')) (by rw [hid]; simp) hr'
                    have hm' := hu.move (id := id) (i := i) (set_hp_self _ _ _) hf hun
                    rw [set_set] at hm'
                    refine ⟨_, _, _, _, hrun, .inl rfl, hm', ?_⟩
                    rw [← hr]
                    rcases hs0 with ⟨h1, h2, h3⟩ | ⟨b, p, cap', cc, U', h1, h2, h3, h4, h5, h6⟩
                    · exact .inl ⟨by rw [env_set_self]; exact h1, h2, h3⟩
                    · exact .inr ⟨b, p, cap', cc, U', by rw [env_set_self]; exact h1, h2, h3, h4, h5, h6⟩
                  · rcases hs0 with ⟨h1, rfl, hr⟩ | ⟨b, p, cap, cc, U', hb', hr, hn, hcm, hh, hsz⟩
                    · have := append_grows (h.drop id) hf hkt hke hd ho hby hpos (n := 0) (f := f) (N := fun _ => undef) (fun j hj => absurd hj (Nat.not_lt_zero j)) hM hr hux (by omega) (by omega) hlim (fun _ => ⟨rfl, rfl⟩) (fun h => absurd rfl h) hax
                      exact this
                    · rcases hrow with ⟨h1, _⟩ | ⟨b2, c2, hb2, hh2, hsz2, hown, hels⟩
                      · rw [hb'] at h1; cases h1
                      · rw [hb'] at hb2; cases hb2
                        rw [hh] at hh2; cases hh2
                        have hels' : Els E.S W te.size n' f fun j => cc.getD j undef := hels
                        have h0 : n' ≠ 0 → p = 0 ∧ cap * te.size ≤ cc.size := by
                          intro hn0
                          rcases hsz with ⟨h1, h2⟩ | ⟨h1, _⟩
                          · exact ⟨by simpa using h1, by simpa using h2⟩
                          · exact absurd h1 hn0
                        by_cases hroom : n' + m ≤ cap
                        · have hp0 : p = 0 ∧ cap * te.size ≤ cc.size := by
                            rcases hsz with ⟨h1, h2⟩ | ⟨_, h2⟩
                            · exact ⟨by simpa using h1, by simpa using h2⟩
                            · omega
                          obtain ⟨rfl, hcsz⟩ := hp0
                          obtain ⟨bx, px, rfl, hcx'⟩ := hax hm
                          obtain ⟨inf, hi, hz, hisz, hbb⟩ := hke.info
                          have hu := hkt.u
                          rw [hd] at hu
                          have hadd : ∀ j, (⟨bx, px, none⟩ : Addr).add j = ⟨bx, px + j, none⟩ := fun j => by unfold Addr.add; split <;> simp_all
                          have hfit : (n' + m) * te.size ≤ cc.size := Nat.le_trans (Nat.mul_le_mul_right _ hroom) hcsz
                          have hrr := run_append_room (P := P) W t o.type U inf hu hi b n' cap cc hh ⟨bx, px, none⟩ m capx (news (m * te.size) M) (by rw [news_len, hisz]) (fun j v hj => by
                            obtain ⟨h1, rfl⟩ := news_get _ _ hj
                            rw [hadd]; exact hcx' j h1) (fun v hv => by
                            obtain ⟨q, hq, rfl⟩ := List.mem_map.1 hv
                            exact els_one hpos hM (List.mem_range.1 hq)) hroom (by rw [news_len, hisz, ← Nat.add_mul]; exact hfit)
                          rw [hisz] at hrr
                          have hrun := append_run (P := P) (W := W) (ρ := ρ) ho (v := .slice (some ⟨b, 0, none⟩) (n' + m) cap) (W' := W.setRow b (splice cc (n' * te.size) (news (m * te.size) M))) (by rw [hr, hux]; exact hrr)
                          have hlen : n' * te.size + (news (m * te.size) M).length ≤ cc.size := by rw [news_len, ← Nat.add_mul]; exact hfit
                          have hset := setRow_heap W b cc (splice cc (n' * te.size) (news (m * te.size) M)) U (0, 0) hh
                          have hown' : ¬ E.S b ∧ B.ow b := hown
                          have hev' : Ev E W E (W.setRow b (splice cc (n' * te.size) (news (m * te.size) M))) :=
                            ⟨fun _ h => h, fun q hq => setRow_other W b q _ (fun e => hown'.1 (e ▸ hq)), fun _ _ => rfl, fun q c3 T3 hq => by
                              by_cases e : q = b
                              · subst e; rw [hh] at hq; cases hq; exact ⟨_, hset, splice_size hlen⟩
                              · exact ⟨c3, (setRow_other W b q _ e).trans hq, rfl⟩⟩
                          have hsp := els_splice (p := n') hels' hM hfit
                          rcases hsp with hsp | hsp
                          · have hr' : SatR B E (W.setRow b (splice cc (n' * te.size) (news (m * te.size) M))) id (.row true U te.size (n' + m) fun j => if j < n' then f j else g (j - n')) := by
                              refine .inr ⟨b, _, hb', hset, by rw [splice_size hlen]; exact hfit, hown, fun j hj => ?_⟩
                              have h2 := hsp j (by omega)
                              have e2 : (if n' ≤ j ∧ j < n' + m then g (j - n') else f j) = if j < n' then f j else g (j - n') := by
                                by_cases hjn : j < n'
                                · rw [if_pos hjn, if_neg (by omega)]
                                · rw [if_neg hjn, if_pos (by omega)]
                              simp only [e2] at h2
                              exact ⟨h2.1.ev hev', h2.2⟩
                            have hw := h.write (r := .row true U te.size (n' + m) fun j => if j < n' then f j else g (j - n')) (by rw [hid]; simp) hb' hh hown' (splice_size hlen) hr'
                            have hm' := hw.move (id := id) (i := i) (set_hp_self _ _ _) hf (by rw [hb']; simp)
                            rw [set_set] at hm'
                            refine ⟨_, _, _, _, hrun, .inl rfl, hm', .inr ⟨b, 0, cap, _, U, by rw [env_set_self]; exact hb', rfl, hroom, hcm, hset, .inl ⟨by simp, by rw [splice_size hlen]; simpa using hcsz⟩⟩⟩
                          · omega
                        · refine append_grows (h.drop id) hf hkt hke hd ho hby hpos (n := n') (f := f) hels' hM hr hux (by omega) (by omega) hlim (by simp) (fun hn0 => ⟨b, p, rfl, fun j hj => ?_⟩) hax
                          obtain ⟨rfl, h2⟩ := h0 hn0
                          rw [Nat.zero_add]
                          exact cell_at hh (Nat.lt_of_lt_of_le hj (Nat.le_trans (Nat.mul_le_mul_right _ hn) h2))
              · cases hv
            · cases htt : tightV (st.ev s) with
              | false => rw [htt] at hv; cases hv
              | true =>
                rw [htt] at hv
                simp only [cond_true] at hv
                cases hss : srcV st te.size (st.ev s) with
                | none => rw [hss] at hv; cases hv
                | some p =>
                  obtain ⟨cs, n, f⟩ := p
                  rw [hss] at hv
                  simp only [Option.some.injEq, Prod.mk.injEq] at hv
                  obtain ⟨rfl, rfl, rfl⟩ := hv
                  obtain ⟨hcs, hcx, hm, hlim⟩ := hc
                  obtain ⟨ax, capx, hux, M, hM, hax⟩ := src_sound h hpos (hev x) hsrc hcx
                  obtain ⟨ao, cap, hus, N, hN, hao⟩ := src_sound h hpos (hev s) hss hcs
                  have hcap : cap = n ∧ (ao = none → n = 0 ∧ cap = 0) := by
                    have hes := hev s
                    cases hse : st.ev s with
                    | d z =>
                      rw [hse] at htt hes
                      cases z with
                      | sl tt k n2 f2 =>
                        simp only [tightV] at htt
                        obtain ⟨a2, cap2, h1, h2, h3, h4, _⟩ := hes
                        rw [hus] at h1
                        simp only [Value.slice.injEq] at h1
                        obtain ⟨h5, h6, h7⟩ := h1
                        subst h6 h7
                        have h8 := h3 htt
                        refine ⟨h8, fun e => ?_⟩
                        have h9 : a2 = none := by rw [e] at h5; cases a2 with | none => rfl | some _ => cases h5
                        have := h4 h9
                        omega
                      | v y =>
                        have h1 : ρ s = y := hes
                        rw [hus] at h1
                        subst h1
                        simp only [tightV] at htt
                        split at htt
                        · rename_i e2; cases e2
                        · rename_i e2; cases e2; exact ⟨rfl, fun _ => ⟨rfl, rfl⟩⟩
                        · cases htt
                      | _ => cases htt
                    | _ => rw [hse] at htt; cases htt
                  by_cases hm0 : m = 0
                  · subst hm0
                    have hnil : nilB (st.ev s) = true := by
                      cases hn : nilB (st.ev s) with
                      | true => rfl
                      | false => unfold nzP at hm; rw [hn] at hm; exact absurd hm (Nat.lt_irrefl 0)
                    have hse : st.ev s = .d (.v (.slice none 0 0)) := by
                      unfold nilB at hnil
                      split at hnil
                      · assumption
                      · cases hnil
                    have hn0 : n = 0 := by rw [hse] at hss; cases hss; rfl
                    subst hn0
                    have hvs : ρ s = .slice none 0 0 := by have := hev s; rw [hse] at this; exact this
                    have hrun := append_run (P := P) (W := W) (ρ := ρ) ho (v := .slice none 0 0) (W' := W) (by rw [hvs, hux]; exact append_zero hkt hke hd (Nat.le_refl 0))
                    exact ⟨_, _, _, W, hrun, .inl rfl, h.newNil hf, .inl ⟨env_set_self _ _ _, rfl, rfl⟩⟩
                  · exact append_grows h hf hkt hke hd ho hby hpos hN hM hus hux (by omega) (by omega) hlim hcap.2 hao hax
    · cases hv
end
end Go.Px
end

/-! PxO -/
noncomputable section
namespace Go.Px
open Go Go.RowKit
section
variable {P : Program} {T : Nat → Option TI} {B : Base} {Fr : Nat → Prop} {E : Env} {st : St} {a : Act} {W : World}
theorem ev_write {b : Nat} {c c' : Array Value} {U : TypeId} (hh : W.heap[b]? = some (Obj.cells c U (0, 0))) (hn : ¬ E.S b) (hs : c'.size = c.size) : Ev E W E (W.setRow b c') :=
  ⟨fun _ h => h, fun q hq => setRow_other W b q _ (fun e => hn (e ▸ hq)), fun _ _ => rfl, fun q c3 T3 hq => by
    by_cases e : q = b
    · subst e; rw [hh] at hq; cases hq; exact ⟨_, setRow_heap W q c c' U (0, 0) hh, hs⟩
    · exact ⟨c3, (setRow_other W b q _ e).trans hq, rfl⟩⟩
/-- Elements written. -/
theorem row_write (h : Sat B Fr E st a W) {id b : Nat} {U k n n2 p : Nat} {f f' : Nat → DV} {c : Array Value} {vs : List Value} (hid : st.hp id = some (.row true U k n f)) (hb : E.ρ id = .at b) (hh : W.heap[b]? = some (Obj.cells c U (0, 0)))
    (hp : p + vs.length ≤ c.size) (hn2 : n2 * k ≤ c.size) (hels : Els E.S W k n2 f' fun j => (splice c p vs).getD j undef) :
    Sat B Fr E (st.set id (some (.row true U k n2 f'))) a (W.setRow b (splice c p vs)) := by
  rcases h.hp id _ hid with ⟨h1, _⟩ | ⟨b2, c2, hb2, hh2, hsz, hown, _⟩
  · rw [hb] at h1; cases h1
  · rw [hb] at hb2; cases hb2
    have hown' : ¬ E.S b ∧ B.ow b := hown
    refine h.write (by rw [hid]; simp) hb hh hown' (splice_size hp) (.inr ⟨b, _, hb, setRow_heap W b c _ U (0, 0) hh, by rw [splice_size hp]; exact hn2, hown, fun j hj => ?_⟩)
    obtain ⟨h3, h4⟩ := hels j hj
    exact ⟨h3.ev (ev_write hh hown'.1 (splice_size hp)), h4⟩
theorem store_run {t : Nat} {ti : TI} (hk : TOk P ti t) {b o : Nat} {c : Array Value} {U : TypeId} {u : Value} (hh : W.heap[b]? = some (Obj.cells c U (0, 0))) (hs : u.cells.size = ti.size) (hle : o + ti.size ≤ c.size) (h1 : ∀ j, j < ti.size → (u.cells.getD j undef).oneCell' = true) :
    (Instr.storeAt t (.pointer (some ⟨b, o, none⟩)) u).run P W = .ok () (W.setRow b (splice c o u.cells.toList)) := by
  have hone : ∀ v ∈ u.cells.toList, v.oneCell' = true := by
    intro v hv
    obtain ⟨j, hj, rfl⟩ := List.getElem_of_mem hv
    have hj' : j < u.cells.size := by simpa using hj
    have := h1 j (by omega)
    rw [Array.getD_eq_getD_getElem?, Array.getElem?_eq_getElem hj'] at this
    simpa using this
  have hr := run_storeCells_at P b o U u.cells.toList 0 c W hh (by rw [Array.length_toList]; omega) hone
  simp only [Nat.add_zero] at hr
  have hn : ¬ (u.cells.size ≠ ti.size) := by simp [hs]
  simp only [Instr.storeAt, Instr.sureAddr, Sem.run_bind, Sem.run_pure, Result.andThen_ok, storeVar, hk.sizeOf, hn, if_false]
  exact hr
theorem cells_toList_getD (u : Value) (q : Nat) : u.cells.toList.getD q undef = u.cells.getD q undef := by
  rw [Array.getD_eq_getD_getElem?, List.getD_eq_getElem?_getD, Array.getElem?_toList]
theorem one1_rep {S : Nat → Prop} {x : DV} {v : Value} (h : Rep S W x v) : Rep S W (one1 x) v := by
  cases x <;> first | exact trivial | exact h
theorem store_sound (hT : TsOk P T) (h : Sat B Fr E st a W) {ρ : Operand → Value} {ad x : AV} {vad vx : Value} (had : RepA E W ad vad) (hx : RepA E W x vx) {t : Nat} {c : Prop} {st' : St} (hv : storeV T t ad x st = some (c, st')) (hc : c) :
    ∃ E' W', (Instr.storeAt t vad vx).run P W = .ok () W' ∧ Sat B Fr E' st' a W' := by
  unfold storeV at hv
  split at hv
  · rename_i ti m ht hl
    cases hb : Nat.beq m ti.size with
    | false => rw [hb] at hv; cases hv
    | true =>
      rw [hb] at hv
      simp only [cond_true] at hv
      have hms := Nat.eq_of_beq_eq_true hb
      have hk := hT t ti ht
      obtain ⟨hcs, hcj⟩ := cells_of hx hl
      split at hv
      · rename_i id off
        split at hv
        · rename_i n f hid
          simp only [Option.some.injEq, Prod.mk.injEq] at hv
          obtain ⟨rfl, rfl⟩ := hv
          obtain ⟨b, hbl, rfl⟩ := had
          obtain ⟨b2, cc, U, hb2, hh, hsz, hown, hcc⟩ := h.hp id _ hid
          rw [hbl] at hb2; cases hb2
          have hown' : ¬ E.S b ∧ B.ow b := hown
          have hle : off + vx.cells.toList.length ≤ cc.size := by rw [Array.length_toList]; omega
          refine ⟨E, _, store_run hk hh (hcs.trans hms) (by omega) (fun j hj => (hcj j (by omega)).2), ?_⟩
          refine h.write (by rw [hid]; simp) hbl hh hown' (splice_size hle) ⟨b, _, U, hbl, setRow_heap W b cc _ U (0, 0) hh, by rw [splice_size hle]; exact hsz, hown, fun j hj => ?_⟩
          rw [splice_getD hle, Array.length_toList, hcs]
          by_cases hin : off ≤ j ∧ j < off + m
          · have e1 : (Nat.ble off j && Nat.blt j (off + m)) = true := by rw [Bool.and_eq_true]; exact ⟨Nat.ble_eq_true_of_le hin.1, blt_iff.2 hin.2⟩
            simp only [if_pos hin, e1, cond_true, cells_toList_getD]
            obtain ⟨h1, h2⟩ := hcj (j - off) (by omega)
            exact ⟨h1.ev (ev_write hh hown'.1 (splice_size hle)), h2⟩
          · have e1 : (Nat.ble off j && Nat.blt j (off + m)) = false := by
              cases hx : (Nat.ble off j && Nat.blt j (off + m)) with
              | false => rfl
              | true => rw [Bool.and_eq_true] at hx; exact absurd ⟨Nat.le_of_ble_eq_true hx.1, blt_iff.1 hx.2⟩ hin
            simp only [if_neg hin, e1, cond_false]
            obtain ⟨h1, h2⟩ := hcc j hj
            exact ⟨h1.ev (ev_write hh hown'.1 (splice_size hle)), h2⟩
        · cases hv
      · rename_i id k i off
        split at hv
        · rename_i U k' n f hid
          cases hkk : Nat.beq k k' with
          | false => rw [hkk] at hv; cases hv
          | true =>
            rw [hkk] at hv
            simp only [cond_true] at hv
            obtain rfl := Nat.eq_of_beq_eq_true hkk
            obtain ⟨b, hbl, rfl⟩ := had
            -- what a write of the cells gives, in a state whose row is this one
            have wr : ∀ {E1 : Env} {st1 : St}, Sat B Fr E1 st1 a W → st1.hp id = some (.row true U k n f) → E1.ρ = E.ρ → ∃ cc, W.heap[b]? = some (Obj.cells cc U (0, 0)) ∧ n * k ≤ cc.size ∧ Els E1.S W k n f fun j => cc.getD j undef := by
              intro E1 st1 h1 hid1 hρ
              rcases h1.hp id _ hid1 with ⟨h2, _⟩ | ⟨b2, cc, hb2, hh, hsz, _, hels⟩
              · rw [hρ, hbl] at h2; cases h2
              · rw [hρ, hbl] at hb2; cases hb2; exact ⟨cc, hh, hsz, hels⟩
            -- the state in which what x leads to is given up
            have frz : ¬ id ∈ reach fuel st.hp x → okDV fuel st.hp x → ∃ E1, Sat B Fr E1 (st.frzs (reach fuel st.hp x)) a W ∧ E1.ρ = E.ρ ∧ (st.frzs (reach fuel st.hp x)).hp id = some (.row true U k n f) ∧ RepC E1.S W m (toDV fuel st.hp x) fun j => vx.cells.getD j undef := by
              intro hni hok
              obtain ⟨E1, h1, h2, h3, h4, h5⟩ := h.frzs (reach fuel st.hp x)
              exact ⟨E1, h1, h4, by rw [h5 id hni]; exact hid, repC_toDV h h2.s hl hok (fun j hj q hq => h3 j hj (reach_live _ _ hj) q hq) hx⟩
            cases hwh : (Nat.beq m k && Nat.beq off 0) with
            | true =>
              rw [hwh] at hv
              simp only [cond_true, Option.some.injEq, Prod.mk.injEq] at hv
              obtain ⟨rfl, rfl⟩ := hv
              rw [Bool.and_eq_true] at hwh
              obtain rfl := Nat.eq_of_beq_eq_true hwh.2
              obtain rfl := Nat.eq_of_beq_eq_true hwh.1
              obtain ⟨hok, hin, hni⟩ := hc
              obtain ⟨E1, h1, hρ, hid1, hrc⟩ := frz hni hok
              obtain ⟨cc, hh, hsz, hels⟩ := wr h1 hid1 hρ
              have hlen : i * m + vx.cells.toList.length ≤ cc.size := by
                have : (i + 1) * m ≤ n * m := Nat.mul_le_mul_right _ hin
                rw [Nat.add_mul] at this
                rw [Array.length_toList, hcs]; omega
              refine ⟨E1, _, store_run hk hh (hcs.trans hms) (by rw [Nat.add_zero]; rw [Array.length_toList, hcs] at hlen; omega) (fun j hj => (hcj j (by omega)).2), ?_⟩
              rw [Nat.add_zero]
              refine row_write h1 hid1 (by rw [hρ]; exact hbl) hh hlen hsz fun j hj => ?_
              have hval : ∀ q, q < m → (splice cc (i * m) vx.cells.toList).getD (j * m + q) undef = if j = i then vx.cells.getD q undef else cc.getD (j * m + q) undef := by
                intro q hq
                rw [splice_getD hlen, Array.length_toList, hcs]
                by_cases e : j = i
                · subst e
                  rw [if_pos (by omega), if_pos rfl, cells_toList_getD]; congr 1; omega
                · rw [if_neg, if_neg e]
                  rintro ⟨h3, h4⟩
                  rcases Nat.lt_or_gt_of_ne e with h5 | h5
                  · have : (j + 1) * m ≤ i * m := Nat.mul_le_mul_right _ h5
                    rw [Nat.add_mul] at this; omega
                  · have : (i + 1) * m ≤ j * m := Nat.mul_le_mul_right _ h5
                    rw [Nat.add_mul] at this; omega
              by_cases e : j = i
              · simp only [upE, if_pos e] at hval ⊢
                exact ⟨hrc.congr fun q hq => hval q hq, fun q hq => (congrArg Value.oneCell' (hval q hq)).trans (hcj q hq).2⟩
              · simp only [upE, if_neg e] at hval ⊢
                obtain ⟨h3, h4⟩ := hels j hj
                exact ⟨h3.congr fun q hq => hval q hq, fun q hq => (congrArg Value.oneCell' (hval q hq)).trans (h4 q hq)⟩
            | false =>
              rw [hwh] at hv
              simp only [cond_false] at hv
              cases hk1 : Nat.beq k 1 with
              | true =>
                rw [hk1] at hv
                simp only [cond_true] at hv
                cases har : Nat.beq off 0 with
                | false => rw [har] at hv; cases hv
                | true =>
                  rw [har] at hv
                  simp only [cond_true, Option.some.injEq, Prod.mk.injEq] at hv
                  obtain ⟨rfl, rfl⟩ := hv
                  obtain rfl := Nat.eq_of_beq_eq_true har
                  obtain rfl := Nat.eq_of_beq_eq_true hk1
                  obtain ⟨cc, hh, hsz, hels⟩ := wr h hid rfl
                  have hlen : i * 1 + vx.cells.toList.length ≤ cc.size := by rw [Array.length_toList, hcs]; omega
                  refine ⟨E, _, store_run hk hh (hcs.trans hms) (by rw [Array.length_toList, hcs] at hlen; omega) (fun j hj => (hcj j (by omega)).2), ?_⟩
                  rw [Nat.add_zero]
                  refine row_write h hid hbl hh hlen hsz fun j hj => ?_
                  rw [midA_eq hj]
                  have hval : ∀ q, q < 1 → (splice cc (i * 1) vx.cells.toList).getD (j * 1 + q) undef = if i ≤ j ∧ j < i + m then vx.cells.getD (j - i) undef else cc.getD (j * 1 + q) undef := by
                    intro q hq
                    rw [splice_getD hlen, Array.length_toList, hcs]
                    by_cases e : i ≤ j ∧ j < i + m
                    · rw [if_pos (by omega), if_pos e, cells_toList_getD]; congr 1; omega
                    · rw [if_neg (by omega), if_neg e]
                  by_cases e : i ≤ j ∧ j < i + m
                  · simp only [mid, if_pos e] at hval ⊢
                    refine ⟨?_, fun q hq => (congrArg Value.oneCell' (hval q hq)).trans (hcj (j - i) (by omega)).2⟩
                    refine repC_dOf rfl ?_
                    have h3 := hval 0 (by omega)
                    show RepA E W _ ((splice cc (i * 1) vx.cells.toList).getD (j * 1 + 0) undef)
                    rw [h3]
                    exact (hcj (j - i) (by omega)).1
                  · simp only [mid, if_neg e] at hval ⊢
                    obtain ⟨h3, h4⟩ := hels j hj
                    exact ⟨h3.congr fun q hq => hval q hq, fun q hq => (congrArg Value.oneCell' (hval q hq)).trans (h4 q hq)⟩
              | false =>
                rw [hk1] at hv
                simp only [cond_false, Option.some.injEq, Prod.mk.injEq] at hv
                obtain ⟨rfl, rfl⟩ := hv
                obtain ⟨hok, hpt', hin, hni⟩ := hc
                obtain ⟨E1, h1, hρ, hid1, hrc⟩ := frz hni hok
                obtain ⟨cc, hh, hsz, hels⟩ := wr h1 hid1 hρ
                have hlen : i * k + off + vx.cells.toList.length ≤ cc.size := by
                  have : (i + 1) * k ≤ n * k := Nat.mul_le_mul_right _ hin
                  rw [Nat.add_mul] at this
                  rw [Array.length_toList, hcs]; omega
                refine ⟨E1, _, store_run hk hh (hcs.trans hms) (by rw [Array.length_toList, hcs] at hlen; omega) (fun j hj => (hcj j (by omega)).2), ?_⟩
                refine row_write h1 hid1 (by rw [hρ]; exact hbl) hh hlen hsz fun j hj => ?_
                have hval : ∀ q, q < k → (splice cc (i * k + off) vx.cells.toList).getD (j * k + q) undef = if j = i ∧ off ≤ q ∧ q < off + m then vx.cells.getD (q - off) undef else cc.getD (j * k + q) undef := by
                  intro q hq
                  rw [splice_getD hlen, Array.length_toList, hcs]
                  by_cases e : j = i ∧ off ≤ q ∧ q < off + m
                  · obtain ⟨rfl, h3, h4⟩ := e
                    rw [if_pos (by omega), if_pos ⟨rfl, h3, h4⟩, cells_toList_getD]; congr 1; omega
                  · rw [if_neg, if_neg e]
                    rintro ⟨h3, h4⟩
                    apply e
                    have hji : j = i := by
                      rcases Nat.lt_trichotomy j i with h5 | h5 | h5
                      · have : (j + 1) * k ≤ i * k := Nat.mul_le_mul_right _ h5
                        rw [Nat.add_mul] at this; omega
                      · exact h5
                      · have : (i + 1) * k ≤ j * k := Nat.mul_le_mul_right _ h5
                        rw [Nat.add_mul] at this; omega
                    subst hji
                    exact ⟨rfl, by omega, by omega⟩
                obtain ⟨h3, h4⟩ := hels j hj
                by_cases e : j = i
                · subst e
                  rw [upE, if_pos rfl]
                  refine ⟨⟨rfl, fun q hq => ?_⟩, fun q hq => ?_⟩
                  · have hv := hval q hq
                    by_cases hq2 : off ≤ q ∧ q < off + m
                    · have e1 : (Nat.ble off q && Nat.blt q (off + m)) = true := by rw [Bool.and_eq_true]; exact ⟨Nat.ble_eq_true_of_le hq2.1, blt_iff.2 hq2.2⟩
                      simp only [e1, cond_true]
                      rw [hv, if_pos ⟨rfl, hq2⟩]
                      exact one1_rep (cellD_of hrc (by omega))
                    · have e1 : (Nat.ble off q && Nat.blt q (off + m)) = false := by
                        cases hx : (Nat.ble off q && Nat.blt q (off + m)) with
                        | false => rfl
                        | true => rw [Bool.and_eq_true] at hx; exact absurd ⟨Nat.le_of_ble_eq_true hx.1, blt_iff.1 hx.2⟩ hq2
                      simp only [e1, cond_false]
                      rw [hv, if_neg (fun hh => hq2 hh.2)]
                      exact one1_rep (cellD_of h3 hq)
                  · have hv := hval q hq
                    by_cases hq2 : off ≤ q ∧ q < off + m
                    · rw [if_pos ⟨rfl, hq2⟩] at hv; exact (congrArg Value.oneCell' hv).trans (hcj (q - off) (by omega)).2
                    · rw [if_neg (fun hh => hq2 hh.2)] at hv; exact (congrArg Value.oneCell' hv).trans (h4 q hq)
                · rw [upE, if_neg e]
                  have hval' : ∀ q, q < k → (splice cc (i * k + off) vx.cells.toList).getD (j * k + q) undef = cc.getD (j * k + q) undef := fun q hq => by
                    rw [hval q hq, if_neg (fun hh => e hh.1)]
                  exact ⟨h3.congr fun q hq => hval' q hq, fun q hq => (congrArg Value.oneCell' (hval' q hq)).trans (h4 q hq)⟩
        · cases hv
      · cases hv
  · cases hv
end
end Go.Px
end

/-! PxP -/
noncomputable section
namespace Go.Px
open Go Go.RowKit
section
variable {P : Program} {T : Nat → Option TI} {B : Base} {Fr : Nat → Prop} {E : Env} {st : St} {a : Act} {W : World}
theorem clear_sound (hT : TsOk P T) (h : Sat B Fr E st a W) {ρ : Operand → Value} {x : AV} {vx : Value} (hx : RepA E W x vx) {t ty : Nat} {c : Prop} {y : AV} {st' : St} (hv : clearV T t x st = some (c, y, st')) (hc : c) :
    ∃ W', (Builtin.clear_ #[t] ty #[vx]).run P W = .ok (.tuple #[]) W' ∧ Sat B Fr E st' a W' ∧ y = .d .top := by
  unfold clearV at hv
  cases ht : T t with
  | none => rw [ht] at hv; cases hv
  | some ti =>
    rw [ht] at hv
    simp only [] at hv
    split at hv
    · rename_i e hd
      cases he : T e with
      | none => rw [he] at hv; cases hv
      | some te =>
        rw [he] at hv
        simp only [] at hv
        split at hv
        · rename_i id k off m
          split at hv
          · rename_i U k' n f hid
            cases hb : (Nat.beq k te.size && Nat.beq k' te.size && Nat.blt 0 te.size) with
            | false => rw [hb] at hv; cases hv
            | true =>
              rw [hb] at hv
              simp only [cond_true, Option.some.injEq, Prod.mk.injEq] at hv
              obtain ⟨rfl, rfl, rfl⟩ := hv
              simp only [Bool.and_eq_true] at hb
              obtain rfl := Nat.eq_of_beq_eq_true hb.1.1
              have hk' := Nat.eq_of_beq_eq_true hb.1.2
              have hpos := blt_iff.1 hb.2
              subst hk'
              have hk := hT t ti ht
              have hke := hT e te he
              have hsame : m = 0 → Sat B Fr E (st.set id (some (.row true U te.size n (mid off m (fun _ => zE te) f)))) a W := by
                rintro rfl
                refine h.upd (by rw [hid]; simp) ?_
                have e1 : mid off 0 (fun _ => zE te) f = f := by
                  funext j; unfold mid; rw [if_neg (by omega)]
                rw [e1]; exact h.hp id _ hid
              rcases hx with ⟨_, rfl, rfl⟩ | ⟨b, o, cap, cc, U', hb', rfl, hn, _, hh, hs⟩
              · refine ⟨W, ?_, hsame rfl, rfl⟩
                simp only [Builtin.clear_, List.getElem?_toArray, List.getElem?_cons_zero, Sem.run_bind, hk.und, hd, Result.andThen_ok, Sem.run_pure]
              · by_cases hm : m = 0
                · refine ⟨W, ?_, hsame hm, rfl⟩
                  subst hm
                  simp only [Builtin.clear_, List.getElem?_toArray, List.getElem?_cons_zero, Sem.run_bind, hk.und, hd, Result.andThen_ok, Sem.run_pure]
                · rcases hs with ⟨rfl, hsz⟩ | ⟨h1, _⟩
                  · rcases h.hp id _ hid with ⟨h1, _⟩ | ⟨b2, c2, hb2, hh2, hsz2, hown, hels⟩
                    · rw [hb'] at h1; cases h1
                    · rw [hb'] at hb2; cases hb2
                      rw [hh] at hh2; cases hh2
                      have hz2 := (zero_cells hke m E.S W).2
                      obtain ⟨M', hM'⟩ : ∃ M' : Nat → Value, M' = fun j => ((Array.range (m * te.size)).map (te.z.cells[· % te.z.cells.size]!)).getD j undef := ⟨_, rfl⟩
                      have hzl : (Builtin.zeroCells te.z.cells m).toList = news (m * te.size) M' := by
                        have e1 : Builtin.zeroCells te.z.cells m = (Array.range (m * te.size)).map (te.z.cells[· % te.z.cells.size]!) := by
                          unfold Builtin.zeroCells; rw [hke.zs]
                        rw [e1]
                        apply List.ext_getElem?
                        intro j
                        rw [Array.getElem?_toList, news, List.getElem?_map]
                        by_cases hj : j < m * te.size
                        · rw [List.getElem?_range hj, hM']
                          simp only [Option.map_some]
                          rw [Array.getD_eq_getD_getElem?, Array.getElem?_map, Array.getElem?_range, if_pos hj]; rfl
                        · rw [List.getElem?_eq_none (by simpa using hj), Array.getElem?_eq_none (by simpa using hj)]; rfl
                      have hzM : Els E.S W te.size m (fun _ => zE te) M' := by rw [hM']; exact hz2
                      have hfit : (off + m) * te.size ≤ cc.size := Nat.le_trans (Nat.mul_le_mul_right _ hc) hsz2
                      have hlen : off * te.size + (news (m * te.size) M').length ≤ cc.size := by rw [news_len, ← Nat.add_mul]; exact hfit
                      have hrr := run_storeCells_at P b (off * te.size) U (news (m * te.size) M') 0 cc W hh (by simpa using hlen) (fun v hv => by
                        obtain ⟨q, hq, rfl⟩ := List.mem_map.1 hv
                        exact els_one hpos hzM (List.mem_range.1 hq))
                      simp only [Nat.add_zero] at hrr
                      refine ⟨W.setRow b (splice cc (off * te.size) (news (m * te.size) M')), ?_, ?_, rfl⟩
                      · have hmm : ∀ q : Nat, m = q + 1 → (Builtin.clear_ #[t] ty #[.slice (some ⟨b, off * te.size, none⟩) (q + 1) cap]).run P W = .ok (.tuple #[]) (W.setRow b (splice cc (off * te.size) (news (m * te.size) M'))) := by
                          rintro q rfl
                          simp only [Builtin.clear_, List.getElem?_toArray, List.getElem?_cons_zero, Sem.run_bind, hk.und, hd, Result.andThen_ok, hke.zeroValue, hzl]
                          rw [hrr]; rfl
                        obtain ⟨q, hq⟩ : ∃ q, m = q + 1 := ⟨m - 1, by omega⟩
                        have := hmm q hq
                        rw [← hq] at this; exact this
                      · refine row_write h hid hb' hh hlen hsz2 ?_
                        rcases els_splice (p := off) hels hzM hfit with h3 | h3
                        · exact fun j hj => h3 j (by omega)
                        · omega
                  · omega
          · cases hv
        · rename_i id k i
          split at hv
          · rename_i U k' n f hid
            cases hb : (Nat.beq k k' && Nat.beq te.size 1 && Nat.blt 0 k) with
            | false => rw [hb] at hv; cases hv
            | true =>
              rw [hb] at hv
              simp only [cond_true, Option.some.injEq, Prod.mk.injEq] at hv
              obtain ⟨rfl, rfl, rfl⟩ := hv
              simp only [Bool.and_eq_true] at hb
              obtain rfl := Nat.eq_of_beq_eq_true hb.1.1
              have hte := Nat.eq_of_beq_eq_true hb.1.2
              have hpos := blt_iff.1 hb.2
              have hk := hT t ti ht
              have hke := hT e te he
              obtain ⟨b, hb', rfl⟩ := hx
              rcases h.hp id _ hid with ⟨h1, _⟩ | ⟨b2, cc, hb2, hh, hsz, hown, hels⟩
              · rw [hb'] at h1; cases h1
              · rw [hb'] at hb2; cases hb2
                have hz1 : (te.z.cells.getD 0 undef).oneCell' = true := (cell_zero hke (E := E) (W := W) 0 (by omega)).2
                have hzl : (Builtin.zeroCells te.z.cells k).toList = List.replicate k (te.z.cells.getD 0 undef) := by
                  unfold Builtin.zeroCells; rw [hke.zs, hte]
                  apply List.ext_getElem?
                  intro j
                  rw [Array.getElem?_toList, List.getElem?_replicate]
                  by_cases hj : j < k
                  · have hm : j % te.z.cells.size = 0 := by rw [hke.zs, hte]; omega
                    have hlt : 0 < te.z.cells.size := by rw [hke.zs, hte]; omega
                    rw [if_pos hj, Array.getElem?_map, Array.getElem?_range, if_pos (by omega)]
                    simp [Nat.mod_one, hlt]
                  · rw [if_neg hj, Array.getElem?_eq_none (by simp; omega)]
                have hlen : i * k + (List.replicate k (te.z.cells.getD 0 undef)).length ≤ cc.size := by
                  have : (i + 1) * k ≤ n * k := Nat.mul_le_mul_right _ hc
                  rw [Nat.add_mul] at this
                  rw [List.length_replicate]; omega
                have hrr := run_storeCells_at P b (i * k) U (List.replicate k (te.z.cells.getD 0 undef)) 0 cc W hh (by simpa using hlen) (fun v hv => by
                  rw [(List.mem_replicate.1 hv).2]; exact hz1)
                simp only [Nat.add_zero] at hrr
                refine ⟨W.setRow b (splice cc (i * k) (List.replicate k (te.z.cells.getD 0 undef))), ?_, ?_, rfl⟩
                · have hmm : ∀ q : Nat, k = q + 1 → (Builtin.clear_ #[t] ty #[.slice (some ⟨b, i * k, none⟩) (q + 1) k]).run P W = .ok (.tuple #[]) (W.setRow b (splice cc (i * k) (List.replicate k (te.z.cells.getD 0 undef)))) := by
                    intro q hq
                    rw [hq] at hzl
                    simp only [Builtin.clear_, List.getElem?_toArray, List.getElem?_cons_zero, Sem.run_bind, hk.und, hd, Result.andThen_ok, hke.zeroValue, hzl]
                    rw [← hq, hrr]; rfl
                  obtain ⟨q, hq⟩ : ∃ q, k = q + 1 := ⟨k - 1, by omega⟩
                  have := hmm q hq
                  rw [← hq] at this; exact this
                · refine row_write h hid hb' hh hlen hsz fun j hj => ?_
                  have hval : ∀ q, q < k → (splice cc (i * k) (List.replicate k (te.z.cells.getD 0 undef))).getD (j * k + q) undef = if j = i then te.z.cells.getD 0 undef else cc.getD (j * k + q) undef := by
                    intro q hq
                    rw [splice_getD hlen, List.length_replicate]
                    by_cases e : j = i
                    · subst e
                      rw [if_pos (by omega), if_pos rfl, List.getD_eq_getElem?_getD, List.getElem?_replicate, if_pos (by omega)]; rfl
                    · rw [if_neg, if_neg e]
                      rintro ⟨h3, h4⟩
                      rcases Nat.lt_or_gt_of_ne e with h5 | h5
                      · have : (j + 1) * k ≤ i * k := Nat.mul_le_mul_right _ h5
                        rw [Nat.add_mul] at this; omega
                      · have : (i + 1) * k ≤ j * k := Nat.mul_le_mul_right _ h5
                        rw [Nat.add_mul] at this; omega
                  by_cases e : j = i
                  · simp only [upE, if_pos e] at hval ⊢
                    exact ⟨⟨rfl, fun q hq => hval q hq⟩, fun q hq => (congrArg Value.oneCell' (hval q hq)).trans hz1⟩
                  · simp only [upE, if_neg e] at hval ⊢
                    obtain ⟨h3, h4⟩ := hels j hj
                    exact ⟨h3.congr fun q hq => hval q hq, fun q hq => (congrArg Value.oneCell' (hval q hq)).trans (h4 q hq)⟩
          · cases hv
        · cases hv
    · cases hv
theorem copy_sound (hT : TsOk P T) (h : Sat B Fr E st a W) {d s : AV} {vd vs : Value} (hd0 : RepA E W d vd) (hs0 : RepA E W s vs) {t ty : Nat} {c : Prop} {y : AV} {st' : St} (hv : copyV T t d s st = some (c, y, st')) (hc : c) :
    ∃ v W', (Builtin.copy_ #[t, t] ty #[vd, vs]).run P W = .ok v W' ∧ Sat B Fr E st' a W' ∧ RepA E W' y v := by
  unfold copyV at hv
  cases ht : T t with
  | none => rw [ht] at hv; cases hv
  | some ti =>
    rw [ht] at hv
    simp only [] at hv
    split at hv
    · rename_i e hd
      cases he : T e with
      | none => rw [he] at hv; cases hv
      | some te =>
        rw [he] at hv
        simp only [] at hv
        cases hsrc : srcV st te.size s with
        | none => rw [hsrc] at hv; cases hv
        | some p =>
          obtain ⟨cx, m, g⟩ := p
          rw [hsrc] at hv
          simp only [] at hv
          split at hv
          · rename_i id k off n
            split at hv
            · rename_i U k' n' f hid
              cases hb : (Nat.beq k te.size && Nat.beq k' te.size && Nat.blt 0 te.size) with
              | false => rw [hb] at hv; cases hv
              | true =>
                rw [hb] at hv
                simp only [cond_true, Option.some.injEq, Prod.mk.injEq] at hv
                obtain ⟨rfl, rfl, rfl⟩ := hv
                simp only [Bool.and_eq_true] at hb
                obtain rfl := Nat.eq_of_beq_eq_true hb.1.1
                have hk' := Nat.eq_of_beq_eq_true hb.1.2
                have hpos := blt_iff.1 hb.2
                subst hk'
                obtain ⟨hcx, hle, rfl⟩ := hc
                have hk := hT t ti ht
                have hke := hT e te he
                obtain ⟨ax, capx, rfl, M, hM, hax⟩ := src_sound h hpos hs0 hsrc hcx
                have hshape : ∃ ao cap, vd = .slice ao m cap := by
                  rcases hd0 with ⟨_, rfl, hr⟩ | ⟨b, o, cap, cc, U', _, hr, _⟩
                  · exact ⟨_, _, hr⟩
                  · exact ⟨_, _, hr⟩
                have hfirst : (Builtin.firstCells te.size m (.slice ax m capx)).run P W = .ok (news (m * te.size) M).toArray W := by
                  by_cases hm : m = 0
                  · subst hm
                    have e1 : news (0 * te.size) M = [] := by simp [news]
                    rw [e1]
                    cases ax with
                    | none => exact run_firstCells_none W te.size 0 0 capx
                    | some ad => exact run_firstCells_some W te.size 0 ad 0 capx [] (by simp) (by simp)
                  · obtain ⟨b, p, rfl, hcell⟩ := hax hm
                    refine run_firstCells_some W te.size m _ m capx (news (m * te.size) M) (news_len _ _) fun j v hj => ?_
                    obtain ⟨h1, rfl⟩ := news_get _ _ hj
                    have hadd : (⟨b, p, none⟩ : Addr).add j = ⟨b, p + j, none⟩ := by unfold Addr.add; split <;> simp_all
                    rw [hadd]; exact hcell j h1
                by_cases hm : m = 0
                · subst hm
                  obtain ⟨ao, cap, rfl⟩ := hshape
                  refine ⟨.int .i64 (0 : Nat), W, ?_, ?_, rfl⟩
                  · have e1 : news (0 * te.size) M = [] := by simp [news]
                    rw [e1] at hfirst
                    cases ao <;> simp [Builtin.copy_, hk.und, hd, Builtin.lenOf, hke.sizeOf, hfirst, storeCells, goInt]
                  · refine h.upd (by rw [hid]; simp) ?_
                    have e1 : mid off 0 g f = f := by
                      funext j; unfold mid; rw [if_neg (by omega)]
                    rw [e1]; exact h.hp id _ hid
                · rcases hd0 with ⟨_, h1, _⟩ | ⟨b, o, cap, cc, U', hb', rfl, hn, _, hh, hs⟩
                  · exact absurd h1 hm
                  · rcases hs with ⟨rfl, hsz⟩ | ⟨h1, _⟩
                    · rcases h.hp id _ hid with ⟨h1, _⟩ | ⟨b2, c2, hb2, hh2, hsz2, hown, hels⟩
                      · rw [hb'] at h1; cases h1
                      · rw [hb'] at hb2; cases hb2
                        rw [hh] at hh2; cases hh2
                        have hfit : (off + m) * te.size ≤ cc.size := Nat.le_trans (Nat.mul_le_mul_right _ hle) hsz2
                        have hlen : off * te.size + (news (m * te.size) M).length ≤ cc.size := by rw [news_len, ← Nat.add_mul]; exact hfit
                        have hrr := run_storeCells_at P b (off * te.size) U (news (m * te.size) M) 0 cc W hh (by simpa using hlen) (fun v hv => by
                          obtain ⟨q, hq, rfl⟩ := List.mem_map.1 hv
                          exact els_one hpos hM (List.mem_range.1 hq))
                        simp only [Nat.add_zero] at hrr
                        refine ⟨.int .i64 m, W.setRow b (splice cc (off * te.size) (news (m * te.size) M)), ?_, ?_, rfl⟩
                        · simp only [Builtin.copy_, List.getElem?_toArray, List.getElem?_cons_zero, List.getElem?_cons_succ, Sem.run_bind, hk.und, hd, Result.andThen_ok, Builtin.lenOf, Sem.run_pure, Nat.min_self, hke.sizeOf, hfirst]
                          rw [hrr]; rfl
                        · refine row_write h hid hb' hh hlen hsz2 ?_
                          rcases els_splice (p := off) hels hM hfit with h3 | h3
                          · exact fun j hj => h3 j (by omega)
                          · omega
                    · omega
            · cases hv
          · cases hv
    · cases hv
end
end Go.Px
end

/-! PxP2 -/
noncomputable section
namespace Go.Px
open Go Go.RowKit
theorem ktEq_of {a b : KT} (h : ktEq a b = true) : a = b := by
  obtain ⟨x, n⟩ := a
  obtain ⟨y, m⟩ := b
  simp only [ktEq, Bool.and_eq_true] at h
  obtain ⟨h1, h2⟩ := h
  obtain rfl := Nat.eq_of_beq_eq_true h1
  cases x <;> cases y <;> first | rfl | cases h2
section
variable {P : Program} {T : Nat → Option TI} {B : Base} {Fr : Nat → Prop} {E : Env} {st : St} {a : Act} {W : World}
theorem intsOf_spec {f : Nat → AV} : ∀ (n j : Nat) (l : List Int), intsOf f j n = some l → l.length = n ∧ ∀ q, q < n → f (j + q) = .d (.v (.int .i64 (l.getD q 0)))
  | 0, _, l, h => by cases h; exact ⟨rfl, fun q hq => absurd hq (Nat.not_lt_zero q)⟩
  | n + 1, j, l, h => by
    unfold intsOf at h
    split at h
    · rename_i k x hx
      cases hk : IntKind.eq k .i64 with
      | false => rw [hk] at h; cases h
      | true =>
        rw [hk] at h
        obtain rfl := IntKind.eq_of hk
        simp only [cond_true] at h
        split at h
        · rename_i l' hl
          cases h
          obtain ⟨h1, h2⟩ := intsOf_spec n (j + 1) l' hl
          refine ⟨by simp [h1], fun q hq => ?_⟩
          cases q with
          | zero =>
            unfold asI at hx
            split at hx
            · rename_i e; simp only [Option.some.injEq, Prod.mk.injEq] at hx; obtain ⟨rfl, rfl⟩ := hx; exact e
            · cases hx
          | succ q => rw [show j + (q + 1) = j + 1 + q by omega, h2 q (by omega)]; rfl
        · cases h
    · cases h
theorem keyA_sound {kt : KT} {x : AV} {u : Value} {l : List Int} (hx : RepA E W x u) (h : keyA kt x = some l) : u = keyV kt l ∧ l.length = kt.n := by
  unfold keyA at h
  unfold keyV
  cases hg : kt.ag with
  | true =>
    rw [hg] at h
    simp only at h ⊢
    split at h
    · rename_i m f hf
      cases hb : Nat.beq m kt.n with
      | false => rw [hb] at h; cases h
      | true =>
        rw [hb] at h
        obtain rfl := Nat.eq_of_beq_eq_true hb
        obtain ⟨h1, h2⟩ := intsOf_spec _ _ _ h
        obtain ⟨cs, rfl, h3, h4⟩ := aggV_of hx hf
        refine ⟨?_, h1⟩
        unfold aggI
        congr 1
        apply Array.ext
        · simp [h3, h1]
        · intro j q1 q2
          have hj : j < kt.n := h3 ▸ q1
          have := h4 j hj
          have e := h2 j hj
          rw [Nat.zero_add] at e
          rw [e] at this
          have : cs.getD j undef = .int .i64 (l.getD j 0) := this
          rw [Array.getD_eq_getD_getElem?, Array.getElem?_eq_getElem q1] at this
          simp only [Option.getD_some] at this
          rw [this, List.getD_eq_getElem?_getD, List.getElem?_eq_getElem (by omega)]
          simp
    · cases h
  | false =>
    rw [hg] at h
    simp only at h ⊢
    cases hb : Nat.beq kt.n 1 with
    | false => rw [hb] at h; cases h
    | true =>
      rw [hb] at h
      obtain ⟨h1, h2⟩ := intsOf_spec _ _ _ h
      have e := h2 0 (by omega)
      obtain ⟨y, rfl⟩ := List.length_eq_one_iff.1 h1
      subst e
      exact ⟨hx, by rw [h1, Nat.eq_of_beq_eq_true hb]⟩
/-- What is found for a key. -/
theorem MapOk.find {kT : Nat} {kt : KT} {m : List Int → Option Int} {es : Array MapEntry} {clock : Nat} (ho : MapOk kt m es clock) (hk : KeyOk P kT kt) {l : List Int} (hl : l.length = kt.n) (w : World) :
    ((Instr.findKey kT (keyV kt l) es.toList).run P w = .ok none w ∧ m l = none ∧ ∀ e ∈ es.toList, e.key ≠ keyV kt l) ∨
    ∃ j e x, (Instr.findKey kT (keyV kt l) es.toList).run P w = .ok (some (j, e.val)) w ∧ es[j]? = some e ∧ e.key = keyV kt l ∧ e.val = .int .i64 x ∧ m l = some x := by
  rcases hk.fnd l es.toList w hl (fun e he => by
    obtain ⟨k, _, h1, h2, _⟩ := ho.ent e he
    exact ⟨k, h1, h2⟩) with ⟨h1, h2⟩ | ⟨j, e, h1, h2, h3⟩
  · refine .inl ⟨h1, ?_, h2⟩
    cases hm : m l with
    | none => rfl
    | some x =>
      obtain ⟨_, e, he, hke⟩ := ho.all l x hm
      exact absurd hke (h2 e he)
  · rw [Array.getElem?_toList] at h2
    have he : e ∈ es.toList := Array.mem_toList_iff.2 (Array.mem_of_getElem? h2)
    obtain ⟨k, x, h4, h5, h6, h7⟩ := ho.ent e he
    obtain rfl : k = l := keyV_inj ho.wf h4 hl (h5.symm.trans h3)
    exact .inr ⟨j, e, x, h1, h2, h3, h6, h7⟩
theorem mapOk_empty {kt : KT} (hw : kt.ag = false → kt.n = 1) : MapOk kt (fun _ => none) #[] 0 :=
  ⟨hw, by simp, fun _ _ h => (by cases h), by simp, by simp, by simp⟩
theorem set_same {α : Type} {l : List α} {j : Nat} {x : α} (h : l[j]? = some x) : l.set j x = l := by
  apply List.ext_getElem?
  intro q
  rw [List.getElem?_set]
  by_cases e : j = q
  · subst e
    rw [if_pos rfl, if_pos (List.getElem?_eq_some_iff.1 h).1, h]
  · rw [if_neg e]
theorem modify_list {es : Array MapEntry} {j : Nat} {e : MapEntry} (hj : es[j]? = some e) (f : MapEntry → MapEntry) : (es.modify j f).toList = es.toList.set j (f e) := by
  apply List.ext_getElem?
  intro q
  rw [Array.getElem?_toList, Array.getElem?_modify, List.getElem?_set, Array.getElem?_toList]
  by_cases h : j = q
  · subst h
    rw [if_pos rfl, if_pos rfl, hj]
    have hl : j < es.toList.length := by rw [Array.length_toList]; exact (Array.getElem?_eq_some_iff.1 hj).1
    rw [if_pos hl]; rfl
  · rw [if_neg h, if_neg h]
theorem mapOk_set {kt : KT} {m : List Int → Option Int} {es : Array MapEntry} {clock : Nat} (ho : MapOk kt m es clock) {l : List Int} (hl : l.length = kt.n) {j : Nat} {e : MapEntry} (hj : es[j]? = some e) (hk : e.key = keyV kt l) (x : Int) :
    MapOk kt (updM m l x) (es.modify j fun e => { e with key := keyV kt l, val := .int .i64 x }) clock := by
  have hlist := modify_list hj fun e => { e with key := keyV kt l, val := .int .i64 x }
  have hjl : es.toList[j]? = some e := by rw [Array.getElem?_toList]; exact hj
  have he : e ∈ es.toList := List.mem_of_getElem? hjl
  have hkeys : (es.toList.set j { e with key := keyV kt l, val := .int .i64 x }).map (·.key) = es.toList.map (·.key) := by
    rw [List.map_set]
    exact set_same (by rw [List.getElem?_map, hjl]; simp [hk])
  have hborns : (es.toList.set j { e with key := keyV kt l, val := .int .i64 x }).map (·.born) = es.toList.map (·.born) := by
    rw [List.map_set]
    exact set_same (by rw [List.getElem?_map, hjl]; rfl)
  have hlt : j < es.toList.length := (List.getElem?_eq_some_iff.1 hjl).1
  refine ⟨ho.wf, ?_, ?_, by rw [hlist, hborns]; exact ho.nd, ?_, by rw [hlist, hkeys]; exact ho.kn⟩
  · intro y hy
    rw [hlist] at hy
    obtain ⟨q, hq⟩ := List.mem_iff_getElem?.1 hy
    rw [List.getElem?_set] at hq
    split at hq
    · rename_i hqj
      cases hq
      exact ⟨l, x, hl, rfl, rfl, by simp [updM]⟩
    · rename_i hqj
      have hy' : y ∈ es.toList := List.mem_of_getElem? hq
      obtain ⟨k, z, h1, h2, h3, h4⟩ := ho.ent y hy'
      refine ⟨k, z, h1, h2, h3, ?_⟩
      have hne : k ≠ l := by
        rintro rfl
        have h5 : (es.toList.map (·.key))[q]? = some (keyV kt k) := by rw [List.getElem?_map, hq]; simp [h2]
        have h6 : (es.toList.map (·.key))[j]? = some (keyV kt k) := by rw [List.getElem?_map, hjl]; simp [hk]
        have := (List.getElem?_inj (by rw [List.length_map]; exact hlt) ho.kn).1 (h6.trans h5.symm)
        exact hqj this
      simp [updM, hne, h4]
  · intro k z hz
    unfold updM at hz
    split at hz
    · rename_i hkl
      subst hkl
      refine ⟨hl, { e with key := keyV kt k, val := .int .i64 x }, ?_, rfl⟩
      rw [hlist]
      exact List.mem_iff_getElem?.2 ⟨j, by rw [List.getElem?_set, if_pos rfl, if_pos hlt]⟩
    · rename_i hkl
      obtain ⟨h1, y, hy, hyk⟩ := ho.all k z hz
      refine ⟨h1, y, ?_, hyk⟩
      obtain ⟨q, hq⟩ := List.mem_iff_getElem?.1 hy
      rw [hlist]
      refine List.mem_iff_getElem?.2 ⟨q, ?_⟩
      rw [List.getElem?_set, if_neg, hq]
      rintro rfl
      rw [hjl] at hq; cases hq
      exact hkl (keyV_inj ho.wf h1 hl (hyk.symm.trans hk))
  · intro y hy
    have : y.born ∈ (es.modify j fun e => { e with key := keyV kt l, val := .int .i64 x }).toList.map (·.born) := List.mem_map.2 ⟨y, hy, rfl⟩
    rw [hlist, hborns] at this
    obtain ⟨z, hz, e2⟩ := List.mem_map.1 this
    rw [← e2]; exact ho.lt z hz
theorem mapOk_push {kt : KT} {m : List Int → Option Int} {es : Array MapEntry} {clock : Nat} (ho : MapOk kt m es clock) {l : List Int} (hl : l.length = kt.n) (hn : ∀ e ∈ es.toList, e.key ≠ keyV kt l) (x : Int) :
    MapOk kt (updM m l x) (es.push { key := keyV kt l, val := .int .i64 x, born := clock }) (clock + 1) := by
  refine ⟨ho.wf, ?_, ?_, ?_, ?_, ?_⟩
  · intro y hy
    rw [Array.toList_push] at hy
    rcases List.mem_append.1 hy with hy | hy
    · obtain ⟨k, z, h1, h2, h3, h4⟩ := ho.ent y hy
      refine ⟨k, z, h1, h2, h3, ?_⟩
      have hne : k ≠ l := fun e => hn y hy (e ▸ h2)
      simp [updM, hne, h4]
    · rw [List.mem_singleton] at hy; subst hy
      exact ⟨l, x, hl, rfl, rfl, by simp [updM]⟩
  · intro k z hz
    rw [Array.toList_push]
    unfold updM at hz
    split at hz
    · rename_i hkl; subst hkl
      exact ⟨hl, _, List.mem_append_right _ (List.mem_singleton.2 rfl), rfl⟩
    · obtain ⟨h1, y, hy, h2⟩ := ho.all k z hz
      exact ⟨h1, y, List.mem_append_left _ hy, h2⟩
  · rw [Array.toList_push, List.map_append, List.nodup_append]
    refine ⟨ho.nd, by simp, fun b hb c hc => ?_⟩
    obtain ⟨y, hy, rfl⟩ := List.mem_map.1 hb
    simp at hc; subst hc
    have := ho.lt y hy; omega
  · intro y hy
    rw [Array.toList_push] at hy
    rcases List.mem_append.1 hy with hy | hy
    · have := ho.lt y hy; omega
    · rw [List.mem_singleton] at hy; subst hy; simp
  · rw [Array.toList_push, List.map_append, List.nodup_append]
    refine ⟨ho.kn, by simp, fun b hb c hc => ?_⟩
    obtain ⟨y, hy, rfl⟩ := List.mem_map.1 hb
    simp at hc; subst hc
    exact hn y hy
theorem mapOk_erase {kt : KT} {m : List Int → Option Int} {es : Array MapEntry} {clock : Nat} (ho : MapOk kt m es clock) {l : List Int} (hl : l.length = kt.n) {j : Nat} {e : MapEntry} (hj : es[j]? = some e) (hk : e.key = keyV kt l) :
    MapOk kt (delM m l) (es.eraseIdxIfInBounds j) clock := by
  have hlist : (es.eraseIdxIfInBounds j).toList = es.toList.eraseIdx j := by
    have hlt := (Array.getElem?_eq_some_iff.1 hj).1
    simp [Array.eraseIdxIfInBounds, hlt, Array.toList_eraseIdx]
  have hjl : es.toList[j]? = some e := by rw [Array.getElem?_toList]; exact hj
  have hlt : j < es.toList.length := (List.getElem?_eq_some_iff.1 hjl).1
  have hsub : (es.toList.eraseIdx j).Sublist es.toList := List.eraseIdx_sublist ..
  have hmem : ∀ y, y ∈ es.toList.eraseIdx j ↔ y ∈ es.toList ∧ y.key ≠ keyV kt l := by
    intro y
    constructor
    · intro hy
      obtain ⟨q, hq, hqj⟩ := List.mem_eraseIdx_iff_getElem?.1 hy
      refine ⟨List.mem_of_getElem? hqj, fun e2 => ?_⟩
      have h5 : (es.toList.map (·.key))[q]? = some (keyV kt l) := by rw [List.getElem?_map, hqj]; simp [e2]
      have h6 : (es.toList.map (·.key))[j]? = some (keyV kt l) := by rw [List.getElem?_map, hjl]; simp [hk]
      exact hq ((List.getElem?_inj (by rw [List.length_map]; exact hlt) ho.kn).1 (h6.trans h5.symm)).symm
    · rintro ⟨hy, hne⟩
      obtain ⟨q, hq⟩ := List.mem_iff_getElem?.1 hy
      refine List.mem_eraseIdx_iff_getElem?.2 ⟨q, ?_, hq⟩
      rintro rfl
      rw [hjl] at hq; cases hq; exact hne hk
  refine ⟨ho.wf, ?_, ?_, ?_, ?_, ?_⟩
  · intro y hy
    rw [hlist, hmem] at hy
    obtain ⟨k, z, h1, h2, h3, h4⟩ := ho.ent y hy.1
    refine ⟨k, z, h1, h2, h3, ?_⟩
    have hne : k ≠ l := by rintro rfl; exact hy.2 h2
    simp [delM, hne, h4]
  · intro k z hz
    unfold delM at hz
    split at hz
    · cases hz
    · rename_i hkl
      obtain ⟨h1, y, hy, h2⟩ := ho.all k z hz
      refine ⟨h1, y, ?_, h2⟩
      rw [hlist, hmem]
      exact ⟨hy, fun e2 => hkl (keyV_inj ho.wf h1 hl (h2.symm.trans e2))⟩
  · rw [hlist]; exact (hsub.map _).nodup ho.nd
  · intro y hy
    rw [hlist] at hy
    exact ho.lt y (hsub.subset hy)
  · rw [hlist]; exact (hsub.map _).nodup ho.kn
theorem mapOk_same {kt : KT} {m : List Int → Option Int} {es : Array MapEntry} {clock : Nat} (ho : MapOk kt m es clock) {l : List Int} (hn : m l = none) : MapOk kt (delM m l) es clock := by
  have : delM m l = m := by
    funext k
    unfold delM
    split
    · rename_i h; rw [h, hn]
    · rfl
  rw [this]; exact ho
theorem getObj_run {r : Nat} {o : Obj} (h : W.heap[r]? = some o) (hs : ∀ c T f, o ≠ .cells c T f := by simp) : (getObj r).run P W = .ok o W := by
  cases o <;> first | exact absurd rfl (hs _ _ _) | simp [getObj, Sem.run, h]
theorem setObj_run {r : Nat} {o o' : Obj} (h : W.heap[r]? = some o) (hs : ∀ c T f, o ≠ .cells c T f) (_ : ∀ ds, o ≠ .deferred ds) : (setObj r o').run P W = .ok () (W.putObj r o') := by
  simp only [setObj, Sem.run, h]; rfl
theorem sameBits_int : ∀ (l : List Int), ((l.map (Value.int .i64)).zip (l.map (Value.int .i64))).all (fun p => Instr.sameBits 9999 p.1 p.2) = true
  | [] => rfl
  | x :: l => by
    simp only [List.map_cons, List.zip_cons_cons, List.all_cons, Bool.and_eq_true]
    exact ⟨by simp [Instr.sameBits], sameBits_int l⟩
theorem keyStays (kt : KT) (l : List Int) : (Instr.keyThatStays (keyV kt l) (keyV kt l)).run P W = .ok (keyV kt l) W := by
  have : Instr.sameBits 10000 (keyV kt l) (keyV kt l) = true := by
    unfold keyV
    cases kt.ag with
    | true =>
      simp only [aggI]
      have := sameBits_int l
      simp only [Instr.sameBits, beq_self_eq_true, Bool.true_and]
      exact this
    | false => simp [Instr.sameBits]
  unfold Instr.keyThatStays
  rw [if_pos this]; rfl
theorem kmp_spec (hT : TsOk P T) {t : Nat} {kt : KT} (h : kmp T t = some kt) : MapT P t kt := by
  unfold kmp at h
  split at h
  · rename_i ti ht; exact (hT t ti ht).mp kt h
  · cases h
theorem makeMap_sound (hT : TsOk P T) (h : Sat B Fr E st a W) {i : Nat} (hf : Fr i) {ρ : Operand → Value} (o : Oper) {t : Nat} (ho : o.op = .makeMap t none) {c : Prop} {x : AV} {st' : St} (hv : makeMapV T i t st = some (c, x, st')) :
    Made P B Fr i st' a W ρ o x := by
  unfold makeMapV at hv
  split at hv
  · rename_i kt hk
    cases hv
    obtain ⟨kT, eT, hu, hko, _⟩ := kmp_spec hT hk
    refine ⟨E.set i (.at W.heap.size), _, .map (some W.heap.size), W.alloc (.map #[] 0), ?_, .inl rfl, h.newO hf ⟨W.heap.size, #[], 0, env_set_self _ _ _, new_heap _ _, fresh_own h _ _, mapOk_empty hko.wf⟩, ⟨W.heap.size, env_set_self _ _ _, rfl⟩⟩
    simp only [execOp, ho, Option.map_none, Instr.makeMap, Sem.run_bind, Sem.run_pure]
    rfl
  · cases hv
theorem upd_sound (hT : TsOk P T) (h : Sat B Fr E st a W) {m k v : AV} {um uk uv : Value} (hm : RepA E W m um) (hk : RepA E W k uk) (hx : RepA E W v uv) {t : Nat} {c : Prop} {x : AV} {st' : St} (hv : updV T t m k v st = some (c, x, st')) :
    ∃ W', (Instr.mapUpdate t um uk uv).run P W = .ok () W' ∧ Sat B Fr E st' a W' ∧ x = .d .top := by
  unfold updV at hv
  split at hv
  · rename_i kt id vk y h1 h2
    split at hv
    · rename_i kt' f l hid hl
      cases hb : (ktEq kt kt' && IntKind.eq vk .i64) with
      | false => rw [hb] at hv; cases hv
      | true =>
        rw [hb] at hv
        rw [Bool.and_eq_true] at hb
        obtain rfl := ktEq_of hb.1
        obtain rfl := IntKind.eq_of hb.2
        simp only [cond_true, Option.some.injEq, Prod.mk.injEq] at hv
        obtain ⟨-, rfl, rfl⟩ := hv
        obtain ⟨kT, eT, hu, hko, _⟩ := kmp_spec hT h1
        obtain ⟨b, hb', rfl⟩ := hm
        obtain ⟨b2, es, clock, hb2, hh, hown, hmo⟩ := h.hp id _ hid
        rw [hb'] at hb2; cases hb2
        have hown' : ¬ E.S b ∧ B.ow b := hown
        obtain ⟨rfl, hlen⟩ := keyA_sound hk hl
        have huv : uv = .int .i64 y := by
          unfold asI at h2
          split at h2
          · simp only [Option.some.injEq, Prod.mk.injEq] at h2; obtain ⟨rfl, rfl⟩ := h2; exact hx
          · cases h2
        subst huv
        have hpre : ∀ K : Option (Nat × Value) → Sem Unit, ((do
            let .map keyType _ ← underlying t | stuck "MapUpdate: map type expected"
            let .map es clock ← getObj b | stuck "MapUpdate: map expected"
            Instr.checkKey false 10000 keyType (keyV kt l)
            K (← Instr.findKey keyType (keyV kt l) es.toList)) : Sem Unit).run P W = ((Instr.findKey kT (keyV kt l) es.toList).run P W).andThen fun r w' => (K r).run P w' := by
          intro K
          simp only [Sem.run_bind, run_underlying hu, getObj_run hh, Result.andThen_ok, hko.chk false l W hlen]
        have hfin : ∀ es' clock', MapOk kt (updM f l y) es' clock' → Sat B Fr E (st.set id (some (.mp true kt (updM f l y)))) a (W.putObj b (.map es' clock')) := by
          intro es' clock' ho'
          refine h.writeO (by rw [hid]; simp) hb' hh (by simp) (by simp) hown' ⟨b, es', clock', hb', World.putObj_heap_same (Array.getElem?_eq_some_iff.1 hh).1, hown, ho'⟩
        rcases hmo.find hko hlen W with ⟨hf, hn, hne⟩ | ⟨j, e, z, hf, hj, hke, hev, hfl⟩
        · refine ⟨_, ?_, hfin _ _ (mapOk_push hmo hlen hne y), rfl⟩
          simp only [Instr.mapUpdate, Sem.run_bind, run_underlying hu, getObj_run hh, Result.andThen_ok, hko.chk false l W hlen, hf]
          exact setObj_run hh (by simp) (by simp)
        · refine ⟨_, ?_, hfin _ _ (mapOk_set hmo hlen hj hke y), rfl⟩
          simp only [Instr.mapUpdate, Sem.run_bind, run_underlying hu, getObj_run hh, Result.andThen_ok, hko.chk false l W hlen, hf, hj, Option.map_some, Option.getD_some, hke, keyStays]
          exact setObj_run hh (by simp) (by simp)
    · cases hv
  · cases hv
theorem del_sound (hT : TsOk P T) (h : Sat B Fr E st a W) {m k : AV} {um uk : Value} (hm : RepA E W m um) (hk : RepA E W k uk) {t u ty : Nat} {c : Prop} {x : AV} {st' : St} (hv : delV T t m k st = some (c, x, st')) :
    ∃ W', (Builtin.delete_ #[t, u] ty #[um, uk]).run P W = .ok (.tuple #[]) W' ∧ Sat B Fr E st' a W' ∧ x = .d .top := by
  unfold delV at hv
  split at hv
  · rename_i kt id h1
    split at hv
    · rename_i kt' f l hid hl
      cases hb : ktEq kt kt' with
      | false => rw [hb] at hv; cases hv
      | true =>
        rw [hb] at hv
        obtain rfl := ktEq_of hb
        simp only [cond_true, Option.some.injEq, Prod.mk.injEq] at hv
        obtain ⟨-, rfl, rfl⟩ := hv
        obtain ⟨kT, eT, hu, hko, _⟩ := kmp_spec hT h1
        obtain ⟨b, hb', rfl⟩ := hm
        obtain ⟨b2, es, clock, hb2, hh, hown, hmo⟩ := h.hp id _ hid
        rw [hb'] at hb2; cases hb2
        have hown' : ¬ E.S b ∧ B.ow b := hown
        obtain ⟨rfl, hlen⟩ := keyA_sound hk hl
        have hfin : ∀ es' clock', MapOk kt (delM f l) es' clock' → Sat B Fr E (st.set id (some (.mp true kt (delM f l)))) a (W.putObj b (.map es' clock')) := by
          intro es' clock' ho'
          refine h.writeO (by rw [hid]; simp) hb' hh (by simp) (by simp) hown' ⟨b, es', clock', hb', World.putObj_heap_same (Array.getElem?_eq_some_iff.1 hh).1, hown, ho'⟩
        rcases hmo.find hko hlen W with ⟨hf, hn, hne⟩ | ⟨j, e, z, hf, hj, hke, hev, hfl⟩
        · refine ⟨_, ?_, hfin _ _ (mapOk_same hmo hn), rfl⟩
          simp only [Builtin.delete_, List.getElem?_toArray, List.getElem?_cons_zero, List.getElem?_cons_succ, Sem.run_bind, run_underlying hu, getObj_run hh, Result.andThen_ok, hko.chk es.isEmpty l W hlen, hf]
          rw [setObj_run hh (by simp) (by simp)]; rfl
        · refine ⟨_, ?_, hfin _ _ (mapOk_erase hmo hlen hj hke), rfl⟩
          simp only [Builtin.delete_, List.getElem?_toArray, List.getElem?_cons_zero, List.getElem?_cons_succ, Sem.run_bind, run_underlying hu, getObj_run hh, Result.andThen_ok, hko.chk es.isEmpty l W hlen, hf]
          rw [setObj_run hh (by simp) (by simp)]; rfl
    · cases hv
  · cases hv
theorem lkOf_sound (h : Sat B Fr E st a W) {m : AV} {um : Value} (hm : RepA E W m um) {kt : KT} {f : List Int → Option Int} {co : Bool} (hv : lkOf st co m = some (kt, f)) : ∃ r es clock f', um = .map (some r) ∧ W.heap[r]? = some (.map es clock) ∧ MapOk kt f' es clock ∧ (∀ l, (f' l).getD 0 = (f l).getD 0) ∧ (co = true → f' = f) := by
  unfold lkOf at hv
  split at hv
  · rename_i id
    split at hv
    · rename_i hid
      cases hv
      obtain ⟨b, hb', rfl⟩ := hm
      obtain ⟨b2, es, clock, hb2, hh, _, hmo⟩ := h.hp id _ hid
      rw [hb'] at hb2; cases hb2
      exact ⟨b, es, clock, f, rfl, hh, hmo, fun _ => rfl, fun _ => rfl⟩
    · rename_i mt kt' f0 l0 g0 hid
      split at hv
      · cases hv
      · cases hv
        obtain ⟨b, hb', rfl⟩ := hm
        obtain ⟨b2, es, clock, hb2, hh, _, hmo, _⟩ := h.hp id _ hid
        rw [hb'] at hb2; cases hb2
        refine ⟨b, es, clock, _, rfl, hh, hmo, fun l => ?_, fun e => by cases e⟩
        unfold updM
        by_cases e : l = l0
        · subst e; rw [if_pos rfl]; rfl
        · rw [if_neg e]
    · cases hv
  · cases hv
    obtain ⟨r, es, clock, rfl, _, hh, hmo⟩ := hm
    exact ⟨r, es, clock, f, rfl, hh, hmo, fun _ => rfl, fun _ => rfl⟩
  · cases hv
theorem look_sound (hT : TsOk P T) (h : Sat B Fr E st a W) {m k : AV} {um uk : Value} (hm : RepA E W m um) (hk : RepA E W k uk) {t : Nat} {co : Bool} {c : Prop} {x : AV} {st' : St} (hv : lookV T t m k co st = some (c, x, st')) :
    ∃ v, (Instr.lookup t um uk co).run P W = .ok v W ∧ RepA E W x v ∧ st' = st := by
  unfold lookV at hv
  split at hv
  · rename_i kt kt' f h1 h2
    split at hv
    · rename_i l hl
      cases hb : ktEq kt kt' with
      | false => rw [hb] at hv; cases hv
      | true =>
        rw [hb] at hv
        obtain rfl := ktEq_of hb
        simp only [cond_true, Option.some.injEq, Prod.mk.injEq] at hv
        obtain ⟨-, rfl, rfl⟩ := hv
        obtain ⟨kT, eT, hu, hko, hz⟩ := kmp_spec hT h1
        obtain ⟨r, es, clock, f', rfl, hh, hmo, hff, hco⟩ := lkOf_sound h hm h2
        obtain ⟨rfl, hlen⟩ := keyA_sound hk hl
        have key : ∃ v0, (Instr.lookup t (.map (some r)) (keyV kt l) co).run P W = .ok (if co then .tuple #[.int .i64 v0, .bool (f' l).isSome] else .int .i64 v0) W ∧ v0 = (f l).getD 0 := by
          rw [← hff l]
          rcases hmo.find hko hlen W with ⟨hf, hn, hne⟩ | ⟨j, e, z, hf, hj, hke, hev, hfl⟩
          · refine ⟨0, ?_, by rw [hn]; rfl⟩
            simp only [Instr.lookup, Sem.run_bind, run_underlying hu, getObj_run hh, Result.andThen_ok, hko.chk es.isEmpty l W hlen, hf, hz, Sem.run_pure, hn]
            cases co <;> rfl
          · refine ⟨z, ?_, by rw [hfl]; rfl⟩
            simp only [Instr.lookup, Sem.run_bind, run_underlying hu, getObj_run hh, Result.andThen_ok, hko.chk es.isEmpty l W hlen, hf, Sem.run_pure, hev, hfl]
            cases co <;> rfl
        obtain ⟨v0, hr, rfl⟩ := key
        refine ⟨_, hr, ?_, rfl⟩
        cases co with
        | false => rfl
        | true =>
          rw [hco rfl]
          refine ⟨_, rfl, rfl, fun j hj => ?_⟩
          match j, hj with
          | 0, _ => rfl
          | 1, _ => rfl
    · cases hv
  · cases hv
theorem rangeMap_sound (hT : TsOk P T) (h : Sat B Fr E st a W) {i : Nat} (hf : Fr i) {ρ : Operand → Value} (hev : ∀ x, RepA E W (st.ev x) (ρ x)) (o : Oper) {t : Nat} {y : Operand} (ho : o.op = .range t y) {c : Prop} {x : AV} {st' : St} (hv : rangeMapV T i t (st.ev y) st = some (c, x, st')) :
    Made P B Fr i st' a W ρ o x := by
  unfold rangeMapV at hv
  split at hv
  · rename_i kt0 h1
    obtain ⟨kT, eT, hu, _, _⟩ := kmp_spec hT h1
    have fin : ∀ {E1 : Env} {st1 : St} {kt : KT} {f : List Int → Option Int} {r : Nat} {es : Array MapEntry} {clock : Nat}, Sat B Fr E1 st1 a W → ρ y = .map (some r) → E1.S r → W.heap[r]? = some (.map es clock) → MapOk kt f es clock →
        Made P B Fr i (st1.set i (some (.it true kt f [] none))) a W ρ o (.ref i 0) := by
      intro E1 st1 kt f r es clock hs hy hS hh hmo
      have hrl : r < W.heap.size := (Array.getElem?_eq_some_iff.1 hh).1
      refine ⟨E1.set i (.at W.heap.size), _, .pointer (some ⟨W.heap.size, 0, none⟩), W.alloc (.mapIter (some r) clock #[] clock), ?_, .inl rfl, hs.newO hf ?_, ⟨W.heap.size, env_set_self _ _ _, rfl⟩⟩
      · simp only [execOp, ho, hy, Instr.range, Sem.run_bind, run_underlying hu, getObj_run hh, Result.andThen_ok, Sem.run_pure]
        rfl
      · refine ⟨W.heap.size, r, es, clock, #[], env_set_self _ _ _, new_heap _ _, fresh_own hs _ _, hS, ?_, hmo, fun e _ => ⟨fun hx => by simp at hx, fun ⟨k, hk, _⟩ => by cases hk⟩, fun k x hx => by cases hx⟩
        show (W.heap.push _)[r]? = _
        rw [Array.getElem?_push, if_neg (by omega)]; exact hh
    split at hv
    · rename_i kt f hy
      cases hv
      have := hev y
      rw [hy] at this
      obtain ⟨r, es, clock, h2, h3, h4, h5⟩ := this
      exact fin h h2 h3 h4 h5
    · rename_i id hy
      split at hv
      · rename_i mt kt f hid
        cases hv
        have := hev y
        rw [hy] at this
        obtain ⟨b, hb, h2⟩ := this
        obtain ⟨b2, es, clock, hb2, hh, _, hmo⟩ := h.hp id _ hid
        rw [hb] at hb2; cases hb2
        have hfr := h.frz hid
        have e : st.frz id = st.set id (some (Res.mp mt kt f).imm) := by unfold St.frz; rw [hid]
        rw [e]
        exact fin hfr h2 (.inr hb) hh hmo
      · cases hv
    · cases hv
  · cases hv
theorem keyD_rep {S : Nat → Prop} (kt : KT) (l : List Int) (hl : l.length = kt.n) : Rep S W (keyD kt l) (keyV kt l) := by
  unfold keyD keyV
  cases kt.ag with
  | true =>
    refine ⟨_, rfl, by simp [hl], fun j hj => ?_⟩
    have : ((l.map (Value.int .i64)).toArray).getD j undef = .int .i64 (l.getD j 0) := by
      rw [Array.getD_eq_getD_getElem?, List.getElem?_toArray, List.getElem?_map, List.getElem?_eq_getElem (by omega), List.getD_eq_getElem?_getD, List.getElem?_eq_getElem (by omega)]
      rfl
    rw [this]
    exact ⟨by show Rep S W (nthI l j) _; rw [nthI_eq]; rfl, rfl⟩
  | false => cases l <;> exact rfl
theorem entry_sound (h : Sat B Fr E st a W) {y : AV} {u : Value} (hy : RepA E W y u) {c : Prop} {x : AV} {st' : St} (hv : entryV y st = some (c, x, st')) :
    ∃ v, (Instr.entry u).run P W = .ok v W ∧ RepA E W x v ∧ st' = st := by
  unfold entryV at hv
  split at hv
  · rename_i id
    split at hv
    · rename_i mt kt f seen l z hid
      cases hv
      obtain ⟨b, hb, rfl⟩ := hy
      obtain ⟨b2, r, es, clock, sn, hb2, hh, _, _, hm, hmo, _, hcur⟩ := h.hp id _ hid
      rw [hb] at hb2; cases hb2
      obtain ⟨hlen, e, sn', rfl, he, hk, hx⟩ := hcur l z rfl
      have hrun := run_entry_at (P := P) W b r clock sn' es clock e hh hm he hmo.nd
      refine ⟨_, hrun, ?_, rfl⟩
      refine ⟨_, rfl, rfl, fun j hj => ?_⟩
      match j, hj with
      | 0, _ =>
        show Rep E.S W (keyD kt l) e.key
        rw [hk]
        exact keyD_rep kt l hlen
      | 1, _ => exact hx
    · cases hv
  · cases hv
theorem nodup_inj {α β : Type} {f : α → β} {l : List α} (h : (l.map f).Nodup) {x y : α} (hx : x ∈ l) (hy : y ∈ l) (e : f x = f y) : x = y := by
  obtain ⟨i, hi⟩ := List.mem_iff_getElem?.1 hx
  obtain ⟨j, hj⟩ := List.mem_iff_getElem?.1 hy
  have h1 : (l.map f)[i]? = some (f x) := by rw [List.getElem?_map, hi]; rfl
  have h2 : (l.map f)[j]? = some (f x) := by rw [List.getElem?_map, hj, e]; rfl
  have := (List.getElem?_inj (by rw [List.length_map]; exact (List.getElem?_eq_some_iff.1 hi).1) h).1 (h1.trans h2.symm)
  subst this
  rw [hi] at hj; cases hj; rfl
theorem next_sound (h : Sat B Fr E st a W) {id : Nat} {u : Value} (hy : RepA E W (.ref id 0) u) {kt : KT} {f : List Int → Option Int} {seen : List (List Int)} {cur : Option (List Int × Int)} (hid : st.hp id = some (.it true kt f seen cur)) (ty : Nat) :
    ((Instr.next u false ty).run P W = .ok (.tuple #[.bool false]) W ∧ ∀ k x, f k = some x → k ∈ seen) ∨
    ∃ k x W', f k = some x ∧ k ∉ seen ∧ k.length = kt.n ∧ (Instr.next u false ty).run P W = .ok (.tuple #[.bool true, keyV kt k, .int .i64 x]) W' ∧ Sat B Fr E (st.set id (some (.it true kt f (k :: seen) (some (k, x))))) a W' := by
  obtain ⟨b, hb, rfl⟩ := hy
  obtain ⟨b2, r, es, clock, sn, hb2, hh, hown, hS, hm, hmo, hseen, hcur⟩ := h.hp id _ hid
  rw [hb] at hb2; cases hb2
  have hown' : ¬ E.S b ∧ B.ow b := hown
  have hbr : r ≠ b := fun e => hown'.1 (e ▸ hS)
  rcases run_next_at (P := P) W ty b r clock clock sn es clock hh hm (fun x hx => hmo.lt x hx) (Nat.le_refl _) with ⟨h1, h2⟩ | ⟨e, he, W1, hW1, h2⟩
  · refine .inl ⟨h2, fun k x hk => ?_⟩
    obtain ⟨hlen, e, he, hke⟩ := hmo.all k x hk
    have : e.born ∈ sn := by
      cases hc : sn.contains e.born with
      | true => exact Array.contains_iff_mem.1 hc
      | false =>
        exfalso
        have : e ∈ leftOf es sn := by
          unfold leftOf
          rw [Array.mem_filter]
          exact ⟨Array.mem_toList_iff.1 he, by rw [hc]; rfl⟩
        have h3 := Array.size_pos_of_mem this
        omega
    obtain ⟨k', hk', hl', hke'⟩ := (hseen e he).1 this
    rw [keyV_inj hmo.wf hlen hl' (hke.symm.trans hke')]; exact hk'
  · right
    have he' := Array.mem_toList_iff.1 he
    unfold leftOf at he'
    rw [Array.mem_filter] at he'
    obtain ⟨hes, hns⟩ := he'
    have hes' : e ∈ es.toList := Array.mem_toList_iff.2 hes
    have hns' : e.born ∉ sn := fun hc => by rw [Array.contains_iff_mem.2 hc] at hns; cases hns
    obtain ⟨k, x, hlen, hkey, hval, hfk⟩ := hmo.ent e hes'
    have hsW1 : Sat B Fr E st a W1 := by
      rcases hW1 with rfl | rfl
      · exact h
      · exact h.drew
    have hh1 : W1.heap[b]? = some (.mapIter (some r) clock sn clock) := by rcases hW1 with rfl | rfl <;> exact hh
    have hm1 : W1.heap[r]? = some (.map es clock) := by rcases hW1 with rfl | rfl <;> exact hm
    have hlt : b < W1.heap.size := (Array.getElem?_eq_some_iff.1 hh1).1
    rw [hkey, hval] at h2
    refine ⟨k, x, _, hfk, fun hks => hns' ((hseen e hes').2 ⟨k, hks, hlen, hkey⟩), hlen, h2, ?_⟩
    refine hsW1.writeO (o' := .mapIter (some r) clock (sn.push e.born) clock) (by rw [hid]; simp) hb hh1 (by simp) (by simp) hown' ?_
    refine ⟨b, r, es, clock, sn.push e.born, hb, World.putObj_heap_same hlt, hown, hS, (World.putObj_heap_other hbr).trans hm1, hmo, fun e2 he2 => ?_, fun k2 x2 hk2 => ?_⟩
    · constructor
      · intro hx
        rcases Array.mem_push.1 hx with hx | hx
        · obtain ⟨k', h3, h4⟩ := (hseen e2 he2).1 hx
          exact ⟨k', List.mem_cons_of_mem _ h3, h4⟩
        · obtain rfl := nodup_inj hmo.nd he2 hes' hx
          exact ⟨k, List.mem_cons_self .., hlen, hkey⟩
      · rintro ⟨k', hk', hl', hke'⟩
        rcases List.mem_cons.1 hk' with rfl | hk'
        · obtain rfl := nodup_inj hmo.kn he2 hes' (hke'.trans hkey.symm)
          exact Array.mem_push_self
        · exact Array.mem_push_of_mem _ ((hseen e2 he2).2 ⟨k', hk', hl', hke'⟩)
    · cases hk2
      exact ⟨hlen, e, sn, rfl, hes', hkey, hval⟩
theorem sliceArr_sound (hT : TsOk P T) (h : Sat B Fr E st a W) {t : Nat} {y : AV} {u : Value} (hy : RepA E W y u) {c : Prop} {x : AV} {st' : St} (hv : sliceArrV T t y st = some (c, x, st')) (hc : c) :
    ∃ v, (Instr.sliceAt t u none none none).run P W = .ok v W ∧ RepA E W x v ∧ st' = st := by
  unfold sliceArrV at hv
  split at hv
  · rename_i ti ht
    split at hv
    · rename_i len e hd
      cases he : T e with
      | none => rw [he] at hv; cases hv
      | some te =>
        rw [he] at hv
        simp only at hv
        cases h1 : Nat.beq te.size 1 with
        | false => rw [h1] at hv; cases hv
        | true =>
          rw [h1] at hv
          simp only [cond_true] at hv
          have hts := Nat.eq_of_beq_eq_true h1
          split at hv
          · rename_i id k i
            split at hv
            · rename_i mt U k' n f hid
              cases h2 : Nat.beq k k' with
              | false => rw [h2] at hv; cases hv
              | true =>
                rw [h2] at hv
                obtain rfl := Nat.eq_of_beq_eq_true h2
                simp only [cond_true] at hv
                obtain ⟨b, hb, rfl⟩ := hy
                have hk := hT t ti ht
                have hke := hT e te he
                have hrun : (Instr.sliceAt t (.pointer (some ⟨b, i * k + 0, none⟩)) none none none).run P W = .ok (.slice (some ⟨b, i * k, none⟩) len len) W := by
                  have hadd : (⟨b, i * k, none⟩ : Addr).add 0 = ⟨b, i * k, none⟩ := by unfold Addr.add; split <;> simp_all
                  simp only [Instr.sliceAt, Sem.run_bind, hk.und, hd, Result.andThen_ok, Instr.sureAddr, Instr.sliceBounds, Sem.run_pure, hke.sizeOf]
                  by_cases h0 : len = 0
                  · simp [h0]
                  · simp [h0, hadd]
                refine ⟨_, hrun, ?_⟩
                rcases h.hp id _ hid with ⟨h3, _⟩ | ⟨b2, cc, hb2, hh, hsz, _⟩
                · rw [hb] at h3; cases h3
                · rw [hb] at hb2; cases hb2
                  cases hk1 : Nat.beq k 1 with
                  | true =>
                    rw [hk1] at hv
                    obtain rfl := Nat.eq_of_beq_eq_true hk1
                    simp only [cond_true] at hv
                    cases hml : Nat.ble len 65536 with
                    | false => rw [hml] at hv; cases hv
                    | true =>
                      rw [hml] at hv
                      simp only [cond_true, Option.some.injEq, Prod.mk.injEq] at hv
                      obtain ⟨rfl, rfl, rfl⟩ := hv
                      obtain ⟨rfl, rfl⟩ := hc
                      have := Nat.le_of_ble_eq_true hml
                      refine ⟨.inr ⟨b, 0, n, cc, U, hb, by simp, Nat.le_refl _, Nat.le_trans this (by decide), hh, .inl ⟨by simp, by omega⟩⟩, rfl⟩
                  | false =>
                    rw [hk1] at hv
                    simp only [cond_false] at hv
                    cases hk2 : Nat.beq k len with
                    | false => rw [hk2] at hv; cases hv
                    | true =>
                      rw [hk2] at hv
                      obtain rfl := Nat.eq_of_beq_eq_true hk2
                      simp only [cond_true, Option.some.injEq, Prod.mk.injEq] at hv
                      obtain ⟨rfl, rfl, rfl⟩ := hv
                      exact ⟨⟨b, hb, rfl⟩, rfl⟩
            · cases hv
          · cases hv
    · cases hv
  · cases hv
theorem sliceHi_sound (hT : TsOk P T) (h : Sat B Fr E st a W) {ρ : Operand → Value} (hev : ∀ x, RepA E W (st.ev x) (ρ x)) {t : Nat} {y : AV} {u : Value} (hy : RepA E W y u) {hi : Operand} {hv' : Int} (hhi : optI st.ev (some hi) = some (some hv')) {c : Prop} {x : AV} {st' : St} (hv : sliceHiV T t y hv' st = some (c, x, st')) (hc : c) :
    ∃ v, (Instr.sliceAt t u none (some (ρ hi)) none).run P W = .ok v W ∧ RepA E W x v ∧ st' = st := by
  unfold sliceHiV at hv
  split at hv
  · rename_i ti ht
    split at hv
    · rename_i len e hd
      cases he : T e with
      | none => rw [he] at hv; cases hv
      | some te =>
        rw [he] at hv
        simp only at hv
        cases h1 : Nat.beq te.size 1 with
        | false => rw [h1] at hv; cases hv
        | true =>
          rw [h1] at hv
          simp only [cond_true] at hv
          have hts := Nat.eq_of_beq_eq_true h1
          split at hv
          · rename_i id k i
            split at hv
            · rename_i mt U k' n f hid
              cases h2 : (Nat.beq k k' && Nat.beq k 1 && Nat.ble len 65536) with
              | false => rw [h2] at hv; cases hv
              | true =>
                rw [h2] at hv
                simp only [Bool.and_eq_true] at h2
                obtain rfl := Nat.eq_of_beq_eq_true h2.1.1
                obtain rfl := Nat.eq_of_beq_eq_true h2.1.2
                have hml := Nat.le_of_ble_eq_true h2.2
                simp only [cond_true, Option.some.injEq, Prod.mk.injEq] at hv
                obtain ⟨rfl, rfl, rfl⟩ := hv
                obtain ⟨rfl, rfl, hc1, hc2⟩ := hc
                obtain ⟨b, hb, rfl⟩ := hy
                have hk := hT t ti ht
                have hke := hT e te he
                have hbn := bounds_run (P := P) (W := W) (isS := false) (len := n) (cap := n) (opt_run hev (x := none) rfl) (opt_run hev hhi) (opt_run hev (x := none) rfl) (by rintro i e; cases e) (by rintro i e; cases e; simp only [oI]; omega) (by rintro i e; cases e)
                simp only [Option.map_some, Option.map_none] at hbn
                have hrun : (Instr.sliceAt t (.pointer (some ⟨b, 0 * 1 + 0, none⟩)) none (some (ρ hi)) none).run P W = .ok (.slice (some ⟨b, 0, none⟩) hv'.toNat n) W := by
                  have hadd : (⟨b, 0, none⟩ : Addr).add 0 = ⟨b, 0, none⟩ := by unfold Addr.add; split <;> simp_all
                  simp only [Instr.sliceAt, Sem.run_bind, hk.und, hd, Result.andThen_ok, Instr.sureAddr, Sem.run_pure, hbn, hke.sizeOf, oN]
                  by_cases h0 : n = 0
                  · simp [h0]
                  · simp [h0, hadd]
                refine ⟨_, hrun, ?_, rfl⟩
                rcases h.hp id _ hid with ⟨h3, _⟩ | ⟨b2, cc, hb2, hh, hsz, _⟩
                · rw [hb] at h3; cases h3
                · rw [hb] at hb2; cases hb2
                  exact .inr ⟨b, 0, n, cc, U, hb, rfl, by omega, Nat.le_trans hml (by decide), hh, .inl ⟨by simp, by omega⟩⟩
            · cases hv
          · cases hv
    · cases hv
  · cases hv
theorem Sat.fr_none (h : Sat B Fr E st a W) {i : Nat} (hf : Fr i) : st.hp i = none := by
  cases hr : st.hp i with
  | none => rfl
  | some r =>
    exfalso
    have hu := h.fr i hf
    have := h.hp i r hr
    cases r with
    | cs mt n f => obtain ⟨b, c, T, h1, _⟩ := this; rw [hu] at h1; cases h1
    | row mt T k n f =>
      rcases this with ⟨h1, _⟩ | ⟨b, c, h1, _⟩ <;> (rw [hu] at h1; cases h1)
    | mp mt kt m => obtain ⟨b, es, c, h1, _⟩ := this; rw [hu] at h1; cases h1
    | it mt kt m seen cur => obtain ⟨b, r, es, c, sn, h1, _⟩ := this; rw [hu] at h1; cases h1
    | me mt kt m l g => obtain ⟨b, es, c, h1, _⟩ := this; rw [hu] at h1; cases h1
/-- A name for a number. -/
theorem Sat.ghost (h : Sat B Fr E st a W) {i : Nat} (hf : Fr i) (lo : Loc) : Sat B (fun j => Fr j ∧ j ≠ i) (E.set i lo) st a W := by
  have hun := h.fr i hf
  have hno := h.fr_none hf
  have hev : Ev E W (E.set i lo) W := Ev.set hun
  have hne : ∀ j, j ≠ i → (E.set i lo).ρ j = E.ρ j := fun j e => by show (bif Nat.beq j i then _ else _) = _; rw [beq_ne e]; rfl
  have hji : ∀ j, st.hp j ≠ none → j ≠ i := fun j hj e => hj (e ▸ hno)
  refine ⟨h.size, fun j hj => (h.tm j hj).ev hev, fun j r' hj => (h.hp j r' hj).ev hev (fun _ _ => rfl) (fun _ _ _ hn => hn), fun j k b hj hk h1 h2 => ?_, fun j hj => ?_, h.sub, h.sup, h.s0, h.df, h.dn, h.dd, h.g, hev.r0 h.r0⟩
  · rw [hne j (hji j hj)] at h1; rw [hne k (hji k hk)] at h2
    exact h.dist j k b hj hk h1 h2
  · rw [hne j hj.2]; exact h.fr j hj.1
theorem modify_same {es : Array MapEntry} {j : Nat} {e : MapEntry} (hj : es[j]? = some e) {f g : MapEntry → MapEntry} (h : f e = g e) : es.modify j f = es.modify j g := by
  rw [← Array.toList_inj, modify_list hj, modify_list hj, h]
theorem ment_sound (hT : TsOk P T) (h : Sat B Fr E st a W) {i : Nat} (hf : Fr i) {ρ : Operand → Value} (hev : ∀ x, RepA E W (st.ev x) (ρ x)) (o : Oper) {t : Nat} {m k : Operand} (ho : o.op = .mapEntry t m k) {c : Prop} {x : AV} {st' : St} (hv : mentV T i t (st.ev m) (st.ev k) st = some (c, x, st')) :
    Made P B Fr i st' a W ρ o x := by
  have hm := hev m
  have hk := hev k
  unfold mentV at hv
  split at hv
  · rename_i kt id h1 h2
    rw [h2] at hm
    split at hv
    · rename_i kt' f l hid hl
      cases hb : ktEq kt kt' with
      | false => rw [hb] at hv; cases hv
      | true =>
        rw [hb] at hv
        obtain rfl := ktEq_of hb
        simp only [cond_true, Option.some.injEq, Prod.mk.injEq] at hv
        obtain ⟨-, rfl, rfl⟩ := hv
        obtain ⟨kT, eT, hu, hko, hz⟩ := kmp_spec hT h1
        obtain ⟨b, hb', hum⟩ := hm
        obtain ⟨b2, es, clock, hb2, hh, hown, hmo⟩ := h.hp id _ hid
        rw [hb'] at hb2; cases hb2
        have hown' : ¬ E.S b ∧ B.ow b := hown
        obtain ⟨huk, hlen⟩ := keyA_sound hk hl
        have hun := h.fr i hf
        have hidi : id ≠ i := fun e => by rw [e] at hb'; rw [hun] at hb'; cases hb'
        have fin : ∀ (es' : Array MapEntry) (clock' v0 : _) (e : MapEntry), MapOk kt (updM f l ((f l).getD 0)) es' clock' → e ∈ es'.toList → e.key = keyV kt l → (f l).getD 0 = v0 →
            (Instr.mapEntry t (.map (some b)) (keyV kt l)).run P W = .ok (.tuple #[.int .i64 v0, .int .i64 e.born]) (W.putObj b (.map es' clock')) →
            Made P B Fr i (st.set id (some (.me true kt f l i))) a W ρ o (.tp 2 (fun j => match j with
              | 0 => .d (.v (.int .i64 ((f l).getD 0)))
              | _ => .stp i)) := by
          intro es' clock' v0 e ho' he hke hv0 hrun
          have hg := h.ghost hf (.at e.born)
          have hbi : (E.set i (.at e.born)).ρ id = .at b := by show (bif Nat.beq id i then _ else _) = _; rw [beq_ne hidi]; exact hb'
          have hw := hg.writeO (o' := .map es' clock') (by rw [hid]; simp) hbi hh (by simp) (by simp) hown' (r := .me true kt f l i)
            ⟨b, es', clock', hbi, World.putObj_heap_same (Array.getElem?_eq_some_iff.1 hh).1, hown', ho', hlen, e, he, hke, env_set_self _ _ _⟩
          refine ⟨_, _, .tuple #[.int .i64 v0, .int .i64 e.born], _, ?_, .inl rfl, hw, ?_⟩
          · simp only [execOp, ho, hum, huk, Sem.run_bind, hrun, Result.andThen_ok, Sem.run_pure]
          · refine ⟨_, rfl, rfl, fun j hj => ?_⟩
            match j, hj with
            | 0, _ => show Value.int .i64 v0 = _; rw [hv0]
            | 1, _ => exact ⟨e.born, env_set_self _ _ _, rfl⟩
        rcases hmo.find hko hlen W with ⟨hfd, hn, hne⟩ | ⟨j, e, z, hfd, hj, hke, hez, hfl⟩
        · refine fin (es.push { key := keyV kt l, val := .int .i64 0, born := clock }) (clock + 1) 0 { key := keyV kt l, val := .int .i64 0, born := clock } ?_ (by simp) rfl (by rw [hn]; rfl) ?_
          · have := mapOk_push hmo hlen hne 0
            rw [hn]; exact this
          · simp only [Instr.mapEntry, Sem.run_bind, run_underlying hu, getObj_run hh, Result.andThen_ok, hko.chk false l W hlen, hfd, hz]
            rw [setObj_run hh (by simp) (by simp)]
            simp [Result.andThen_ok, goInt]
        · have hjl : es.toList[j]? = some e := by rw [Array.getElem?_toList]; exact hj
          have hsame : (es.modify j fun e => { e with key := keyV kt l, val := .int .i64 z }) = es.modify j fun e => { e with key := keyV kt l } := modify_same hj (by rw [← hez])
          have hall : (es.modify j fun e => { e with key := keyV kt l }) = es := by
            rw [← Array.toList_inj, modify_list hj]
            rw [show ({ e with key := keyV kt l } : MapEntry) = e by rw [← hke]]
            apply List.ext_getElem?
            intro q
            rw [List.getElem?_set]
            by_cases eq : j = q
            · subst eq; rw [if_pos rfl, if_pos (List.getElem?_eq_some_iff.1 hjl).1, hjl]
            · rw [if_neg eq]
          refine fin (es.modify j fun e => { e with key := keyV kt l }) clock z e ?_ ?_ hke (by rw [hfl]; rfl) ?_
          · have := mapOk_set hmo hlen hj hke z
            rw [hfl]
            rw [hsame] at this; exact this
          · rw [hall]; exact List.mem_of_getElem? hjl
          · simp only [Instr.mapEntry, Sem.run_bind, run_underlying hu, getObj_run hh, Result.andThen_ok, hko.chk false l W hlen, hfd, hj, Option.map_some, Option.getD_some, hke, keyStays]
            rw [setObj_run hh (by simp) (by simp)]
            simp [Result.andThen_ok, goInt, hez]
    · cases hv
  · cases hv
theorem mest_sound (h : Sat B Fr E st a W) {m s v : AV} {um us uv : Value} (hm : RepA E W m um) (hs : RepA E W s us) (hx : RepA E W v uv) {t : Nat} {c : Prop} {x : AV} {st' : St} (hv : mestV m s v st = some (c, x, st')) :
    ∃ W', (Instr.entryStore t um us uv).run P W = .ok () W' ∧ Sat B Fr E st' a W' ∧ x = .d .top := by
  unfold mestV at hv
  split at hv
  · rename_i id g vk y h2
    split at hv
    · rename_i kt f l g' hid
      cases hb : (Nat.beq g g' && IntKind.eq vk .i64) with
      | false => rw [hb] at hv; cases hv
      | true =>
        rw [hb] at hv
        rw [Bool.and_eq_true] at hb
        obtain rfl := Nat.eq_of_beq_eq_true hb.1
        obtain rfl := IntKind.eq_of hb.2
        simp only [cond_true, Option.some.injEq, Prod.mk.injEq] at hv
        obtain ⟨-, rfl, rfl⟩ := hv
        obtain ⟨b, hb', rfl⟩ := hm
        obtain ⟨b2, es, clock, hb2, hh, hown, hmo, hlen, e, he, hke, hge⟩ := h.hp id _ hid
        rw [hb'] at hb2; cases hb2
        have hown' : ¬ E.S b ∧ B.ow b := hown
        obtain ⟨bs, hbs, rfl⟩ := hs
        rw [hge] at hbs; cases hbs
        have huv : uv = .int .i64 y := by
          unfold asI at h2
          split at h2
          · simp only [Option.some.injEq, Prod.mk.injEq] at h2; obtain ⟨rfl, rfl⟩ := h2; exact hx
          · cases h2
        subst huv
        obtain ⟨j, hj⟩ := List.mem_iff_getElem?.1 he
        have hja : es[j]? = some e := by rw [← Array.getElem?_toList]; exact hj
        have hfi : es.findIdx? (fun x => ((x.born : Nat) : Int) == ((e.born : Nat) : Int)) = some j := by
          rw [Array.findIdx?_eq_some_iff_getElem]
          have hlt := (Array.getElem?_eq_some_iff.1 hja).1
          refine ⟨hlt, by rw [(Array.getElem?_eq_some_iff.1 hja).2]; simp, fun q hq => ?_⟩
          have hql : q < es.size := by omega
          intro hc
          have hb : es[q].born = e.born := by have h := eq_of_beq hc; omega
          have h1 : (es.toList.map (·.born))[q]? = some e.born := by rw [List.getElem?_map, Array.getElem?_toList, Array.getElem?_eq_getElem hql]; simp [hb]
          have h2 : (es.toList.map (·.born))[j]? = some e.born := by rw [List.getElem?_map, hj]; rfl
          have := (List.getElem?_inj (by simpa using hql) hmo.nd).1 (h1.trans h2.symm)
          omega
        have hmod : (es.modify j fun x => { x with key := keyV kt l, val := .int .i64 y }) = es.modify j fun x => { x with val := .int .i64 y } := modify_same hja (by rw [← hke])
        have hset := mapOk_set hmo hlen hja hke y
        rw [hmod] at hset
        have hupd : updM (updM f l ((f l).getD 0)) l y = updM f l y := by
          funext q
          unfold updM
          by_cases e : q = l
          · rw [if_pos e, if_pos e]
          · rw [if_neg e, if_neg e, if_neg e]
        rw [hupd] at hset
        refine ⟨_, ?_, h.writeO (o' := .map (es.modify j fun x => { x with val := .int .i64 y }) clock) (by rw [hid]; simp) hb' hh (by simp) (by simp) hown' ⟨b, _, clock, hb', World.putObj_heap_same (Array.getElem?_eq_some_iff.1 hh).1, hown, hset⟩, rfl⟩
        simp only [Instr.entryStore, Sem.run_bind, getObj_run hh, Result.andThen_ok, asInt, asIntOf, Sem.run_pure, hfi]
        exact setObj_run hh (by simp) (by simp)
    · cases hv
  · cases hv
end
end Go.Px
end

/-! PxQ -/
noncomputable section
namespace Go.Px
open Go Go.RowKit
/-- The fence of all contracts here: nothing is asked; ro: the round, if any. -/
def Fr0 (ro : Option Nat) : Fence := { Fence.wide with round := ro }
section
variable {P : Program} {T : Nat → Option TI} {B : Base} {Fr : Nat → Prop} {E : Env} {st : St} {a : Act} {W : World}
theorem ms_shape {id k off n : Nat} {u : Value} (h : RepA E W (.ms id k off n) u) : ∃ (x : Option (Nat × Nat)) (cap : Nat), u = .slice (x.map fun y => ⟨y.1, y.2, none⟩) n cap ∧ n ≤ cap := by
  rcases h with ⟨_, rfl, rfl⟩ | ⟨b, o, cap, cc, T', _, rfl, h3, _⟩
  · exact ⟨none, 0, rfl, Nat.le_refl _⟩
  · exact ⟨some (b, o), cap, rfl, h3⟩
theorem add0 (b o : Nat) : (⟨b, o, none⟩ : Addr).add 0 = ⟨b, o, none⟩ := by unfold Addr.add; split <;> simp_all
theorem slice3_sound (hT : TsOk P T) (h : Sat B Fr E st a W) {ρ : Operand → Value} (hev : ∀ x, RepA E W (st.ev x) (ρ x)) (o : Oper) {t : Nat} {x hi mx : Operand} (ho : o.op = .slice t x none (some hi) (some mx))
    {hv mv : Option Int} (hhi : optI st.ev (some hi) = some hv) (hmx : optI st.ev (some mx) = some mv) {c : Prop} {y : AV} {st' : St} (hs : slice3V T t (st.ev x) hv mv st = some (c, y, st')) (hc : c) :
    ∃ E' v, (execOp ρ o).run P W = .ok (.value v) W ∧ Sat B Fr E' st' a W ∧ RepA E' W y v := by
  have hx := hev x
  unfold slice3V at hs
  split at hs
  · rename_i ti h0 m0 ht
    split at hs
    · rename_i e hd
      cases he : T e with
      | none => rw [he] at hs; cases hs
      | some te =>
        rw [he] at hs
        simp only [] at hs
        split at hs
        · rename_i id k off n ex
          split at hs
          · rename_i mt U k' n' f hid
            cases hb : (Nat.beq k te.size && Nat.beq k' te.size) with
            | false => rw [hb] at hs; cases hs
            | true =>
              rw [hb] at hs
              simp only [cond_true, Option.some.injEq, Prod.mk.injEq] at hs
              obtain ⟨rfl, rfl, rfl⟩ := hs
              simp only [Bool.and_eq_true] at hb
              obtain rfl := Nat.eq_of_beq_eq_true hb.1
              have hk' := Nat.eq_of_beq_eq_true hb.2
              subst hk'
              obtain ⟨c1, c2, rfl, c4⟩ := hc
              rw [ex] at hx
              obtain ⟨xo, cap, hu, hcap⟩ := ms_shape hx
              have hfr := h.frz hid
              have hev2 : Ev E W (E.frz id) W := ⟨fun _ h => .inl h, fun _ _ => rfl, fun _ _ => rfl, fun _ c _ h => ⟨c, h, rfl⟩⟩
              obtain ⟨ao, cap1, hu1, q1, q2, q3, hy⟩ := rep_msV (lo := none) (hi := some m0) (mx := none) (show msV id te.size off n none (some m0) none = some (_, _) from rfl) ⟨c1, c2⟩ hx
              rw [hu] at hu1; cases hu1
              have hsame : ∀ p : Prop, ∀ [Decidable p], (if p then (xo.map fun y => (⟨y.1, y.2, none⟩ : Addr)) else (xo.map fun y => (⟨y.1, y.2, none⟩ : Addr)).map (·.add (oN none 0 * te.size))) = xo.map fun y => ⟨y.1, y.2, none⟩ := by
                intro p _
                split
                · rfl
                · cases xo with
                  | none => rfl
                  | some z => simp [add0, oN]
              have hr := toDV_sound h (S := (E.frz id).S) (fun _ h => .inl h) 1 (.ms id te.size off m0.toNat) _ (by simp only [okDV, hid]; exact ⟨by trivial, by omega⟩) (by simp only [reach, hid]; intro j hj b hb; simp at hj; subst hj; exact .inr hb) hy
              simp only [toDV, hid] at hr
              rw [hsame] at hr
              simp only [oN] at hr
              obtain ⟨a1, cap2, heq, hn2, _, ha, hel⟩ := hr
              simp only [Nat.sub_zero] at heq
              injection heq with e1 e2 e3
              have hrun := slice_run (P := P) (W := W) hT hev ht hd he (lo := none) (l := none) rfl hhi hmx (n := n) (cap := cap) (ao := xo.map fun y => ⟨y.1, y.2, none⟩)
                (by rintro i e; cases e; exact ⟨c1, by omega, by simp⟩) (by rintro i e; cases e; simp only [oI]; omega) (by rintro i e; cases e)
              refine ⟨E.frz id, .slice a1 m0.toNat m0.toNat, ?_, ?_, ?_⟩
              · simp only [execOp, ho, hu, Sem.run_bind, Sem.run_pure]
                simp only [Option.map_none, Option.map_some] at hrun ⊢
                rw [hrun]
                rw [hsame]; simp only [oN, Nat.sub_zero, Result.andThen_ok, e1]
              · have : st.frz id = st.set id (some (Res.row mt U te.size n' f).imm) := by unfold St.frz; rw [hid]
                rw [this]; exact hfr
              · exact ⟨a1, m0.toNat, rfl, Nat.le_refl _, fun _ => rfl, fun hn => by subst hn; have := ha rfl; omega, hel⟩
          · cases hs
        · cases hs
    · cases hs
  · cases hs
theorem nil_sound (h : Sat B Fr E st a W) {i : Nat} (hf : Fr i) {ρ : Operand → Value} (hev : ∀ x, RepA E W (st.ev x) (ρ x)) (hρ : ∀ v, ρ (.const v) = v) (o : Oper) (ho : o.op = .assign (.const (.slice none 0 0))) {t : Nat} {c : Prop} {y : AV} {st' : St} (hs : nilV T i t st = some (c, y, st')) :
    Made P B Fr i st' a W ρ o y := by
  unfold nilV at hs
  split at hs
  · rename_i ti ht
    split at hs
    · rename_i e hd
      cases he : T e with
      | none => rw [he] at hs; cases hs
      | some te =>
        rw [he] at hs
        simp only [Option.some.injEq, Prod.mk.injEq] at hs
        obtain ⟨rfl, rfl, rfl⟩ := hs
        exact ⟨_, _, _, W, by simp only [execOp, ho, hρ]; rfl, .inl rfl, h.newNil hf, .inl ⟨env_set_self _ _ _, rfl, rfl⟩⟩
    · cases hs
  · cases hs
/-- The world after a call. -/
theorem Sat.called (h : Sat B Fr E st a W) {S' : Nat → Prop} {W' : World} (h1 : ∀ b, E.S b → S' b) (h2 : ∀ b, S' b → E.S b ∨ (W.heap.size ≤ b ∧ b < W'.heap.size)) (h3 : Below W.heap.size W W') : Sat B Fr { E with S := S' } st a W' := by
  have hev : Ev E W { E with S := S' } W' := ⟨h1, fun b hb => h3.block b (h.S_lt b hb), fun _ _ => rfl, fun b c _ hh => ⟨c, (h3.block b (Array.getElem?_eq_some_iff.1 hh).1).trans hh, rfl⟩⟩
  refine h.go hev (fun id b hi hb => h3.block b (h.at_lt hi hb)) (fun id b hi hb hl hn hS => ?_) (fun _ => rfl) (fun b hb => ?_) rfl (fun D hD => ?_) (.of_below h3)
  · rcases h2 b hS with hs | hs
    · exact hn hs
    · omega
  · rcases h2 b hb with hs | hs
    · exact (h.sup b hs).imp id fun x => ⟨x.1, Nat.lt_of_lt_of_le x.2 h3.size⟩
    · exact .inr ⟨B.how W h.g _ hs.1, hs.2⟩
  · obtain ⟨d1, d2, d3⟩ := h.dd D hD
    have hl := (Array.getElem?_eq_some_iff.1 d3).1
    refine ⟨h3.block D hl, fun hS => ?_⟩
    rcases h2 D hS with hs | hs
    · exact d2 hs
    · omega
/-- A memory under a new name, at a place that no other one has. -/
theorem Sat.fresh (h : Sat B Fr E st a W) {i : Nat} (hf : Fr i) {lo : Loc} {r : Res} (hd : ∀ b, lo = .at b → ∀ j, st.hp j ≠ none → E.ρ j = .at b → False) (hr : SatR B (E.set i lo) W i r) :
    Sat B (fun j => Fr j ∧ j ≠ i) (E.set i lo) (st.set i (some r)) a W := by
  have hun := h.fr i hf
  have hev : Ev E W (E.set i lo) W := Ev.set hun
  have hne : ∀ j, j ≠ i → (E.set i lo).ρ j = E.ρ j := fun j e => by show (bif Nat.beq j i then _ else _) = _; rw [beq_ne e]; rfl
  have hid : (E.set i lo).ρ i = lo := by show (bif Nat.beq i i then _ else _) = _; rw [beq_self]; rfl
  have hh : ∀ j, j ≠ i → (st.set i (some r)).hp j = st.hp j := fun j e => by show (bif Nat.beq j i then _ else _) = _; rw [beq_ne e]; rfl
  refine ⟨h.size, fun j hj => (h.tm j hj).ev hev, fun j r' hj => ?_, fun j k b hj hk h1 h2 => ?_, fun j hj => ?_, h.sub, h.sup, h.s0, h.df, h.dn, h.dd, h.g, hev.r0 h.r0⟩
  · by_cases e : j = i
    · subst e
      have : (st.set j (some r)).hp j = some r := by show (bif Nat.beq j j then _ else _) = _; rw [beq_self]; rfl
      rw [this] at hj; cases hj; exact hr
    · rw [hh j e] at hj
      exact (h.hp j r' hj).ev hev (fun _ _ => rfl) (fun _ _ _ hn => hn)
  · by_cases ej : j = i <;> by_cases ek : k = i
    · rw [ej, ek]
    · subst ej
      rw [hid] at h1
      rw [hne k ek] at h2; rw [hh k ek] at hk
      exact (hd b h1 k hk h2).elim
    · subst ek
      rw [hid] at h2
      rw [hne j ej] at h1; rw [hh j ej] at hj
      exact (hd b h2 j hj h1).elim
    · rw [hne j ej] at h1; rw [hne k ek] at h2; rw [hh j ej] at hj; rw [hh k ek] at hk
      exact h.dist j k b hj hk h1 h2
  · rw [hne j hj.2]; exact h.fr j hj.1
theorem reps_list (h : Sat B Fr E st a W) {S : Nat → Prop} (hS : ∀ b, E.S b → S b) : ∀ (l : List AV) (us : List Value), okDVs st l → (∀ id ∈ reachs st l, ∀ b, E.ρ id = .at b → S b) → l.length = us.length → (∀ j, j < l.length → RepA E W (l.getD j (.d .top)) (us.getD j undef)) →
    Reps S W (l.map (toDV fuel st.hp)) us
  | [], [], _, _, _, _ => trivial
  | [], _ :: _, _, _, hl, _ => by simp at hl
  | _ :: _, [], _, _, hl, _ => by simp at hl
  | x :: l, u :: us, hok, hre, hl, hx => by
    refine ⟨toDV_sound h hS fuel x u hok.1 (fun id hid => hre id ?_) (by simpa using hx 0 (by simp)), reps_list h hS l us hok.2 (fun id hid => hre id ?_) (by simpa using hl) fun j hj => by simpa using hx (j + 1) (by simpa using hj)⟩
    · exact List.mem_append_left _ hid
    · exact List.mem_append_right _ hid
theorem getD_range {α : Type} (n : Nat) (g : Nat → α) (j : Nat) (d : α) (h : j < n) : ((List.range n).map g).getD j d = g j := by
  rw [List.getD_eq_getElem?_getD, List.getElem?_map, List.getElem?_range h]; rfl
theorem callee_run {f : AV} {u : Value} (hu : RepA E W f u) {l : List AV} {us : List Value} (hl : l.length = us.length) (hx : ∀ j, j < l.length → RepA E W (l.getD j (.d .top)) (us.getD j undef)) {g : Nat} {l' : List AV} (hv : calleeV f l = some (g, l')) :
    ∃ fs cs : Array Value, u = .func (.func g) fs cs ∧ l'.length = (fs.toList ++ us ++ cs.toList).length ∧ ∀ j, j < l'.length → RepA E W (l'.getD j (.d .top)) ((fs.toList ++ us ++ cs.toList).getD j undef) := by
  have join : ∀ (a b : List AV) (x y : List Value), a.length = x.length → (∀ j, j < a.length → RepA E W (a.getD j (.d .top)) (x.getD j undef)) → b.length = y.length → (∀ j, j < b.length → RepA E W (b.getD j (.d .top)) (y.getD j undef)) →
      (a ++ b).length = (x ++ y).length ∧ ∀ j, j < (a ++ b).length → RepA E W ((a ++ b).getD j (.d .top)) ((x ++ y).getD j undef) := by
    intro a b x y h1 h2 h3 h4
    refine ⟨by simp [h1, h3], fun j hj => ?_⟩
    by_cases hj1 : j < a.length
    · rw [List.getD_eq_getElem?_getD, List.getElem?_append_left hj1, List.getD_eq_getElem?_getD, List.getElem?_append_left (by omega), ← List.getD_eq_getElem?_getD, ← List.getD_eq_getElem?_getD]; exact h2 j hj1
    · rw [List.getD_eq_getElem?_getD, List.getElem?_append_right (by omega), List.getD_eq_getElem?_getD, List.getElem?_append_right (by omega), ← List.getD_eq_getElem?_getD, ← List.getD_eq_getElem?_getD, ← h1]
      exact h4 _ (by rw [List.length_append] at hj; omega)
  unfold calleeV at hv
  split at hv
  · rename_i n m f' c'
    cases hv
    obtain ⟨fs, cs, rfl, h1, h2, h3, h4⟩ := hu
    have j1 := join ((List.range n).map f') l fs.toList us (by simp [h1]) (fun j hj => by
      simp only [List.length_map, List.length_range] at hj
      rw [getD_range _ _ _ _ hj]
      simpa [List.getD_eq_getElem?_getD, Array.getD_eq_getD_getElem?] using h3 j hj) hl hx
    have j2 := join _ ((List.range m).map c') _ cs.toList j1.1 j1.2 (by simp [h2]) (fun j hj => by
      simp only [List.length_map, List.length_range] at hj
      rw [getD_range _ _ _ _ hj]
      simpa [List.getD_eq_getElem?_getD, Array.getD_eq_getD_getElem?] using h4 j hj)
    exact ⟨fs, cs, rfl, j2.1, j2.2⟩
  · rename_i n m f' c'
    cases hv
    obtain ⟨fs, cs, rfl, h1, h2, h3, h4⟩ := hu
    have j1 := join ((List.range n).map fun j => AV.d (f' j)) l fs.toList us (by simp [h1]) (fun j hj => by
      simp only [List.length_map, List.length_range] at hj
      rw [getD_range _ _ _ _ hj]
      have := h3 j hj
      simpa [RepA, Rep, List.getD_eq_getElem?_getD, Array.getD_eq_getD_getElem?] using this) hl hx
    have j2 := join _ ((List.range m).map fun j => AV.d (c' j)) _ cs.toList j1.1 j1.2 (by simp [h2]) (fun j hj => by
      simp only [List.length_map, List.length_range] at hj
      rw [getD_range _ _ _ _ hj]
      have := h4 j hj
      simpa [RepA, Rep, List.getD_eq_getElem?_getD, Array.getD_eq_getD_getElem?] using this)
    exact ⟨fs, cs, rfl, j2.1, j2.2⟩
  · cases hv
theorem flat_rep {r : DV} (hr : r.flat = true) {S S' : Nat → Prop} {W W' : World} {v : Value} (h : Rep S W r v) : Rep S' W' r v := by
  induction r generalizing v with
  | v x => exact h
  | top => trivial
  | ag n f ih =>
    simp only [DV.flat, List.all_eq_true, List.mem_range] at hr
    obtain ⟨cs, h1, h2, h3⟩ := h
    exact ⟨cs, h1, h2, fun j hj => ⟨ih j (hr j hj) (h3 j hj).1, (h3 j hj).2⟩⟩
  | tp n f ih =>
    simp only [DV.flat, List.all_eq_true, List.mem_range] at hr
    obtain ⟨cs, h1, h2, h3⟩ := h
    exact ⟨cs, h1, h2, fun j hj => ih j (hr j hj) (h3 j hj)⟩
  | _ => cases hr
/-- The memory of a state, seen by a function that is lent it. -/
def lent (E : Env) (id : Nat) : Env := ⟨E.S, fun j => bif Nat.beq j 0 then E.ρ id else .un, []⟩
theorem lent_un {E : Env} {id j : Nat} (h : j ≠ 0) : (lent E id).ρ j = .un := by
  show (bif Nat.beq j 0 then E.ρ id else .un) = .un
  rw [beq_ne h]; rfl
theorem ip_sound (h : Sat B Fr E st a W) {f : AV} {u : Value} (hu : RepA E W f u) {l : List AV} {us : List Value} (hl : l.length = us.length) (hx : ∀ j, j < l.length → RepA E W (l.getD j (.d .top)) (us.getD j undef))
    {x' : Nat → DV} {z : AV} {c : Prop} {y : AV} {st' : St} (hv : ipV P f l x' z st = some (c, y, st')) (hc : c) :
    ∃ g fs cs, u = .func (.func g) fs cs ∧ Ent P g ∧ Calls P g (fs ++ us.toArray ++ cs) W fun e W' => ∃ v E', e = .returned v ∧ Sat B Fr E' st' a W' ∧ RepA E' W' y v := by
  unfold ipV at hv
  split at hv
  · rename_i gf f1 f2 id k off n l'
    split at hv
    · rename_i U k' m x hid
      cases hb : Nat.beq k' k with
      | false => rw [hb] at hv; cases hv
      | true =>
      rw [hb] at hv
      simp only [cond_true] at hv
      cases hv
      obtain rfl := Nat.eq_of_beq_eq_true hb
      obtain ⟨⟨rfl, rfl, hre, hok⟩, hC⟩ := hc
      obtain ⟨fs, cs, rfl, hfs, hcs, _, _⟩ := hu
      obtain ⟨v, us', rfl⟩ : ∃ v us', us = v :: us' := by
        match us, hl with
        | v :: us', _ => exact ⟨v, us', rfl⟩
      have hx0 : RepA E W (.ms id k' 0 m) v := hx 0 (by simp)
      have e1 : fs = #[] := Array.size_eq_zero_iff.1 hfs
      have e2 : cs = #[] := Array.size_eq_zero_iff.1 hcs
      subst e1; subst e2
      refine ⟨gf, #[], #[], rfl, hC.ent, ?_⟩
      have e3 : (#[] ++ (v :: us').toArray ++ #[] : Array Value) = (v :: us').toArray := by simp
      rw [e3]
      have hρ0 : (lent E id).ρ 0 = E.ρ id := rfl
      have hrow := h.hp id _ hid
      have hx1 : RepA (lent E id) W (.ms 0 k' 0 m) v := hx0
      have hs1 : SatR (baseI (lent E id) W) (lent E id) W 0 (.row true U k' m x) := by
        rcases hrow with h1 | ⟨b, cc, h1, h2, h3, h4, h5⟩
        · exact .inl h1
        · have h4' : ¬ E.S b ∧ B.ow b := h4
          exact .inr ⟨b, cc, h1, h2, h3, show ¬ E.S b ∧ _ from ⟨h4'.1, .inl h1⟩, h5⟩
      have hreps : Reps (lent E id).S W (l'.map (toDV fuel st.hp)) us' :=
        reps_list h (fun _ h => h) l' us' hok (fun i hi => by rw [hre] at hi; cases hi) (by simpa using hl) fun j hj => by simpa using hx (j + 1) (by simpa using hj)
      refine (hC.run (lent E id) W v us' h.S_lt (fun j hj => lent_un hj) rfl hx1 hs1 hreps).mono ?_
      rintro e W' ⟨r, E1, rfl, p1, p2, p3, p4, p5, p6, p7⟩
      have p2 : E1.ρ 0 = E.ρ id := p2
      have p5 : Stp (fun b => E.ρ id = .at b ∨ W.heap.size ≤ b) W W' := p5
      have hnS : ∀ b, E.ρ id = .at b → ¬ E.S b ∧ ¬ E1.S b ∧ B.ow b ∧ ∃ c0 T0, W.heap[b]? = some (.cells c0 T0 (0, 0)) := by
        intro b hb
        rcases hrow with ⟨h1, _⟩ | ⟨b', cc, h1, h2, h3, h4, h5⟩
        · rw [hb] at h1; cases h1
        · rw [hb] at h1; cases h1
          have h4' : ¬ E.S b ∧ B.ow b := h4
          refine ⟨h4'.1, ?_, h4'.2, cc, U, h2⟩
          rcases p6 with ⟨q1, _⟩ | ⟨b2, c2, q1, _, _, q4, _⟩
          · rw [p2, hb] at q1; cases q1
          · rw [p2, hb] at q1; cases q1
            have q4' : ¬ E1.S b ∧ _ := q4
            exact q4'.1
      have hkeep : ∀ b, b < W.heap.size → E.ρ id ≠ .at b → W'.heap[b]? = W.heap[b]? := fun b hb hn => p5.block b hb fun ho => ho.elim hn fun hge => by omega
      have hst : Stp B.ow W W' := ⟨p5.os, p5.tape, p5.output, p5.size, fun k hk hn => p5.block k hk fun ho => ho.elim (fun h1 => hn (hnS k h1).2.2.1) fun h1 => hn (B.how W h.g k h1), p5.sh⟩
      let E2 : Env := { E with S := E1.S }
      have hev : Ev E W E2 W' := ⟨p3, fun b hb => hkeep b (h.S_lt b hb) fun hn => (hnS b hn).1 hb, fun _ _ => rfl, p5.sh⟩
      have hne0 : st.hp id ≠ none := by rw [hid]; simp
      have hh : ∀ i, i ≠ id → (st.set id (some (.row true U k' m x'))).hp i = st.hp i := fun i e => by show (bif Nat.beq i id then _ else _) = _; rw [beq_ne e]; rfl
      have hlive : ∀ i, (st.set id (some (.row true U k' m x'))).hp i ≠ none → st.hp i ≠ none := fun i hi => by
        by_cases e : i = id
        · rw [e]; exact hne0
        · rw [hh i e] at hi; exact hi
      have hold : ∀ b, b < W.heap.size → ¬ E.S b → ¬ E1.S b := fun b hb hn hS => by
        rcases p4 b hS with h1 | ⟨h1, _⟩
        · exact hn h1
        · rcases h1 with h1 | h1
          · exact (hnS b h1).2.1 hS
          · have h1 : W.heap.size ≤ b := h1
            omega
      refine ⟨r, E2, rfl, ?_, ?_⟩
      · refine ⟨h.size, fun i hi => (h.tm i hi).ev hev, fun i r' hi => ?_, fun i j b hi hj h1 h2 => h.dist i j b (hlive i hi) (hlive j hj) h1 h2, h.fr, fun b hb => p3 b (h.sub b hb), fun b hb => ?_, fun b hb => ⟨(h.s0 b hb).1, Nat.lt_of_lt_of_le (h.s0 b hb).2 p5.size⟩, h.df, h.dn, fun D hD => ?_, B.hG _ _ h.g hst, h.r0⟩
        · by_cases e : i = id
          · subst e
            have : (st.set i (some (Res.row true U k' m x'))).hp i = some (.row true U k' m x') := by show (bif Nat.beq i i then _ else _) = _; rw [beq_self]; rfl
            rw [this] at hi; cases hi
            rcases p6 with ⟨q1, q2⟩ | ⟨b2, c2, q1, q2, q3, q4, q5⟩
            · exact .inl ⟨p2.symm.trans q1, q2⟩
            · have hb2 : E.ρ i = .at b2 := p2.symm.trans q1
              exact .inr ⟨b2, c2, hb2, q2, q3, show ¬ E1.S b2 ∧ B.ow b2 from ⟨(hnS b2 hb2).2.1, (hnS b2 hb2).2.2.1⟩, q5⟩
          · have hi2 := hi
            rw [hh i e] at hi
            have hin : st.hp i ≠ none := by rw [hi]; simp
            refine (h.hp i r' hi).ev hev (fun b hb => hkeep b (h.at_lt hin hb) fun hn => ?_) (fun b hb hl hn => hold b hl hn)
            exact e (h.dist i id b hin hne0 hb hn)
        · rcases p4 b hb with h1 | ⟨h1, h2⟩
          · exact (h.sup b h1).imp (fun q => q) fun q => ⟨q.1, Nat.lt_of_lt_of_le q.2 p5.size⟩
          · rcases h1 with h1 | h1
            · exact absurd hb (hnS b h1).2.1
            · exact .inr ⟨B.how W h.g b h1, h2⟩
        · obtain ⟨d1, d2, d3⟩ := h.dd D hD
          have hlt := (Array.getElem?_eq_some_iff.1 d3).1
          refine ⟨d1, hold D hlt d2, (hkeep D hlt fun hn => ?_).trans d3⟩
          obtain ⟨_, _, _, c0, T0, h0⟩ := hnS D hn
          rw [d3] at h0; cases h0
      · exact AV.nm_rep (E' := E2) (i := id) p1 rfl p2.symm p7
    · cases hv
  · cases hv
theorem call_sound (h : Sat B Fr E st a W) {i : Nat} (hf : Fr i) {f : AV} {u : Value} (hu : RepA E W f u) {l : List AV} {us : List Value} (hl : l.length = us.length) (hx : ∀ j, j < l.length → RepA E W (l.getD j (.d .top)) (us.getD j undef))
    {r : CR} {c : Prop} {y : AV} {st' : St} (hv : callV P i f l r st = some (c, y, st')) (hc : c) :
    ∃ g fs cs, u = .func (.func g) fs cs ∧ Ent P g ∧ Calls P g (fs ++ us.toArray ++ cs) W fun e W' => ∃ v E', e = .returned v ∧ Sat B (fun j => Fr j ∧ j ≠ i) E' st' a W' ∧ RepA E' W' y v := by
  have hw : ∀ j, (Fr j ∧ j ≠ i) → Fr j := fun _ h => h.1
  cases r with
  | ip x' z =>
    obtain ⟨g, fs, cs, h1, h2, h3⟩ := ip_sound h hu hl hx hv hc
    exact ⟨g, fs, cs, h1, h2, h3.mono fun e W' ⟨v, E', q1, q2, q3⟩ => ⟨v, E', q1, q2.weak hw, q3⟩⟩
  | dv r =>
  simp only [callV] at hv
  split at hv
  · rename_i g l' hg
    cases hv
    obtain ⟨fs, cs, rfl, h1, h2⟩ := callee_run hu hl hx hg
    obtain ⟨E1, hs1, hev1, hr1, hρ1, _⟩ := h.frzs (reachs st l')
    have hreps : Reps E1.S W (l'.map (toDV fuel st.hp)) (fs.toList ++ us ++ cs.toList) :=
      reps_list h hev1.s l' _ hc.1 (fun id hid b hb => hr1 id hid (by
        obtain ⟨x, _, hx⟩ := List.mem_flatMap.1 hid
        exact reach_live _ _ hx) b hb) h1 h2
    have hcall := hc.2.2 E1.S W _ hs1.S_lt hreps
    refine ⟨g, fs, cs, rfl, hc.2.1, ?_⟩
    have e : (fs.toList ++ us ++ cs.toList).toArray = fs ++ us.toArray ++ cs := by simp
    rw [e] at hcall
    refine hcall.mono ?_
    rintro en W' ⟨v, S', rfl, hrep, p1, p2, p3⟩
    cases hfl : r.flat with
    | true => exact ⟨v, E, rfl, (h.below p3).weak hw, flat_rep hfl hrep⟩
    | false => exact ⟨v, { E1 with S := S' }, rfl, (hs1.called p1 p2 p3).weak hw, hrep⟩
  · cases hv
  | nw R z =>
  simp only [callV] at hv
  split at hv
  · rename_i g l' hg
    cases hv
    have hR : R.nw = true := hc.1.2
    obtain ⟨fs, cs, rfl, h1, h2⟩ := callee_run hu hl hx hg
    obtain ⟨E1, hs1, hev1, hr1, hρ1, _⟩ := h.frzs (reachs st l')
    have hreps : Reps E1.S W (l'.map (toDV fuel st.hp)) (fs.toList ++ us ++ cs.toList) :=
      reps_list h hev1.s l' _ hc.1.1 (fun id hid b hb => hr1 id hid (by
        obtain ⟨x, _, hx⟩ := List.mem_flatMap.1 hid
        exact reach_live _ _ hx) b hb) h1 h2
    have hcall := hc.2.run E1.S W _ hs1.S_lt hreps
    refine ⟨g, fs, cs, rfl, hc.2.ent, ?_⟩
    have e : (fs.toList ++ us ++ cs.toList).toArray = fs ++ us.toArray ++ cs := by simp
    rw [e] at hcall
    refine hcall.mono ?_
    rintro en W' ⟨v, E2, rfl, q1, p1, p2, p3, hrow, hrep⟩
    have hs2 := hs1.called p1 p2 p3
    obtain ⟨hnun, hat⟩ := hrow.nw_at hR
    let E3 : Env := { E1 with S := E2.S }
    have hi : (E3.set i (E2.ρ 0)).ρ i = E2.ρ 0 := by show (bif Nat.beq i i then _ else _) = _; rw [beq_self]; rfl
    refine ⟨v, E3.set i (E2.ρ 0), rfl, ?_, AV.nm_rep (E' := E3.set i (E2.ρ 0)) (i := i) q1 rfl hi hrep⟩
    refine hs2.fresh hf (fun b hb j hj hrj => ?_) ?_
    · have h3 := hs1.at_lt hj hrj
      have h4 : W.heap.size ≤ b := (hat b hb).2
      omega
    · exact SatR.nm (B := base0 E1.S W) hR q1 rfl hi (fun b hb ho => B.how W hs1.g b ho) hrow
  · cases hv
  | ln r =>
  simp only [callV] at hv
  split at hv
  · rename_i g l' hg
    cases hall : (reachs st l').all (isMp st) with
    | false => rw [hall] at hv; cases hv
    | true =>
    rw [hall] at hv
    simp only [cond_true] at hv
    cases hv
    rw [List.all_eq_true] at hall
    obtain ⟨fs, cs, rfl, h1, h2⟩ := callee_run hu hl hx hg
    -- what is lent to be read
    let S1 : Nat → Prop := fun b => E.S b ∨ ∃ id ∈ reachs st l', E.ρ id = .at b
    have hmap : ∀ b, (∃ id ∈ reachs st l', E.ρ id = .at b) → b < W.heap.size ∧ ∃ es c, W.heap[b]? = some (.map es c) := by
      rintro b ⟨id, hid, hb⟩
      have hm := hall id hid
      unfold isMp at hm
      split at hm
      · rename_i mt kt m hst
        obtain ⟨b2, es, c, hb2, hh, _⟩ := h.hp id _ hst
        rw [hb] at hb2; cases hb2
        exact ⟨(Array.getElem?_eq_some_iff.1 hh).1, es, c, hh⟩
      · cases hm
    have hS1 : ∀ b, S1 b → b < W.heap.size := fun b hb => hb.elim (h.S_lt b) fun hb => (hmap b hb).1
    have hreps : Reps S1 W (l'.map (toDV fuel st.hp)) (fs.toList ++ us ++ cs.toList) :=
      reps_list h (fun _ hb => .inl hb) l' _ hc.1.1 (fun id hid b hb => .inr ⟨id, hid, hb⟩) h1 h2
    have hcall := hc.2.2 S1 W _ hS1 hreps
    refine ⟨g, fs, cs, rfl, hc.2.1, ?_⟩
    have e : (fs.toList ++ us ++ cs.toList).toArray = fs ++ us.toArray ++ cs := by simp
    rw [e] at hcall
    refine hcall.mono ?_
    rintro en W' ⟨v, S', rfl, hrep, p1, p2, p3⟩
    let S2 : Nat → Prop := fun b => S' b ∧ (E.S b ∨ W.heap.size ≤ b)
    refine ⟨v, { E with S := S2 }, rfl, (h.called (S' := S2) (fun b hb => ⟨p1 b (.inl hb), .inl hb⟩) (fun b hb => ?_) p3).weak hw, ?_⟩
    · rcases hb.2 with h3 | h3
      · exact .inl h3
      · rcases p2 b hb.1 with h4 | h4
        · have := hS1 b h4; omega
        · exact .inr h4
    · refine (RR_noMp (S := S') (S' := S2) (fun b hb => ?_) r hc.1.2.h).1 v hrep
      rcases p2 b hb with (h4 | h4) | h4
      · exact .inl ⟨hb, .inl h4⟩
      · obtain ⟨hlt, es, c, hh⟩ := hmap b h4
        exact .inr ⟨es, c, (p3.block b hlt).trans hh⟩
      · exact .inl ⟨hb, .inr h4.1⟩
  · cases hv
theorem made_wp {ro : Option Nat} {n : Nat} {next : Act → World → Prop} {Q : Exit → Act → World → Prop} {o : Oper} (hnc : ∀ c, o.op ≠ .defer c) {r : Next} {v : Value} {W' : World}
    (hrun : (execOp a.eval o).run P W = .ok r W') (hr : r = .value v ∨ (r = .skip ∧ v = undef)) (hn : next (a.put o.dst v) W') : o.wpIn (Fr0 ro) n P a W next Q := by
  refine ⟨fun _ _ => trivial, ?_⟩
  rw [Oper.semAt_eq _ _ _ hnc, hrun]
  rcases hr with rfl | ⟨rfl, rfl⟩
  · exact hn
  · exact hn
theorem step_sound (hT : TsOk P T) (h : Sat B Fr E st a W) {i : Nat} (hf : Fr i) {ro : Option Nat} {n : Nat} {next : Act → World → Prop} {Q : Exit → Act → World → Prop} (o : Oper) {r : CR} {c : Prop} {x : AV} {st' : St}
    (hv : stepV P T i o.op o.type st r = some (c, x, st')) (hc : c)
    (hn : ∀ E' v W', Sat B (fun j => Fr j ∧ j ≠ i) E' st' a W' → RepA E' W' x v → next (a.put o.dst v) W') : o.wpIn (Fr0 ro) n P a W next Q := by
  have hev := h.ev
  have hpure : ∀ {c x}, pureV T o.op st.ev = some (c, x) → c → (∀ E' v W', Sat B (fun j => Fr j ∧ j ≠ i) E' st a W' → RepA E' W' x v → next (a.put o.dst v) W') → (∀ c, o.op ≠ .defer c) → o.wpIn (Fr0 ro) n P a W next Q := by
    intro c x hp hc hn hnd
    obtain ⟨v, hr, hx⟩ := pure_sound (P := P) (W := W) (E := E) hT hev o hp hc
    exact made_wp hnd hr (.inl rfl) (hn E v W (h.weak fun _ hj => hj.1) hx)
  have hmade : Made P B Fr i st' a W a.eval o x → (∀ c, o.op ≠ .defer c) → o.wpIn (Fr0 ro) n P a W next Q := by
    rintro ⟨E', r, v, W', hr, h1, h2, h3⟩ hnd
    exact made_wp hnd hr h1 (hn E' v W' h2 h3)
  unfold stepV at hv
  split at hv
  · rename_i t ad ho
    split at hv
    · rename_i ti ht
      simp only [Option.map_eq_some_iff] at hv
      obtain ⟨⟨c', x'⟩, hl, e⟩ := hv
      cases e
      obtain ⟨v, hr, hx⟩ := load_sound hT h ht (hev ad) hl hc
      exact made_wp (by rw [ho]; simp) (by simp only [execOp, ho, Sem.run_bind, hr, Result.andThen_ok, Sem.run_pure]) (.inl rfl) (hn E v W (h.weak fun _ hj => hj.1) hx)
    · cases hv
  · rename_i t ho
    exact hmade (alloc_sound hT h hf o ho hv) (by rw [ho]; simp)
  · rename_i t y ho
    exact hmade (box_sound h hf hev o ho hv) (by rw [ho]; simp)
  · rename_i t len parts ho
    exact hmade (buildSlice_sound hT h hf hev o ho hv hc) (by rw [ho]; simp)
  · rename_i t l cp ho
    exact hmade (makeSlice_sound hT h hf hev o ho hv hc) (by rw [ho]; simp)
  · rename_i t ad y ho
    simp only [Option.map_eq_some_iff] at hv
    obtain ⟨⟨c', s'⟩, hl, e⟩ := hv
    cases e
    obtain ⟨E', W', hr, hs⟩ := store_sound (ρ := a.eval) hT h (hev ad) (hev y) hl hc
    exact made_wp (by rw [ho]; simp) (by simp only [execOp, ho, Sem.run_bind, hr, Result.andThen_ok, Sem.run_pure]) (.inr ⟨rfl, rfl⟩) (hn E' undef W' (hs.weak fun _ hj => hj.1) trivial)
  · rename_i ho
    exact hmade (nil_sound h hf hev (fun _ => rfl) o ho hv) (by rw [ho]; simp)
  · rename_i t y hi mx ho
    split at hv
    · rename_i id k off m ey
      split at hv
      · rename_i h1 m1 hh hm
        cases hi with
        | none =>
          exfalso
          have : h1 = none := by simpa [optI] using hh.symm
          subst this
          unfold slice3V at hv
          split at hv
          · rename_i e; cases e
          · cases hv
        | some hi =>
          obtain ⟨E', v, hr, hs, hx⟩ := slice3_sound hT h hev o ho hh hm hv hc
          exact made_wp (by rw [ho]; simp) hr (.inl rfl) (hn E' v W (hs.weak fun _ hj => hj.1) hx)
      · cases hv
    · simp only [Option.map_eq_some_iff] at hv
      obtain ⟨⟨c', s'⟩, hl, e⟩ := hv
      cases e
      exact hpure (by rw [ho]; exact hl) hc hn (by rw [ho]; simp)
  · rename_i t y ho
    split at hv
    · rename_i id k j q ey
      have hy := hev y
      rw [ey] at hy
      obtain ⟨v, hr, hx, rfl⟩ := sliceArr_sound hT h hy hv hc
      exact made_wp (by rw [ho]; simp) (by simp only [execOp, ho, Option.map_none, Sem.run_bind, hr, Result.andThen_ok, Sem.run_pure]) (.inl rfl) (hn E v W (h.weak fun _ hj => hj.1) hx)
    · simp only [Option.map_eq_some_iff] at hv
      obtain ⟨⟨c', s'⟩, hl, e⟩ := hv
      cases e
      exact hpure (by rw [ho]; exact hl) hc hn (by rw [ho]; simp)
  · rename_i t y hi ho
    split at hv
    · rename_i id k j q ey
      split at hv
      · rename_i hv' hhi
        have hy := hev y
        rw [ey] at hy
        obtain ⟨v, hr, hx, rfl⟩ := sliceHi_sound hT h hev hy hhi hv hc
        exact made_wp (by rw [ho]; simp) (by simp only [execOp, ho, Option.map_none, Option.map_some, Sem.run_bind, hr, Result.andThen_ok, Sem.run_pure]) (.inl rfl) (hn E v W (h.weak fun _ hj => hj.1) hx)
      · cases hv
    · simp only [Option.map_eq_some_iff] at hv
      obtain ⟨⟨c', s'⟩, hl, e⟩ := hv
      cases e
      exact hpure (by rw [ho]; exact hl) hc hn (by rw [ho]; simp)
  · rename_i t ho
    exact hmade (makeMap_sound hT h hf o ho hv) (by rw [ho]; simp)
  · rename_i t m k v ho
    obtain ⟨W', hr, hs, rfl⟩ := upd_sound hT h (hev m) (hev k) (hev v) hv
    exact made_wp (by rw [ho]; simp) (by simp only [execOp, ho, Sem.run_bind, hr, Result.andThen_ok, Sem.run_pure]) (.inr ⟨rfl, rfl⟩) (hn E undef W' (hs.weak fun _ hj => hj.1) trivial)
  · rename_i t m k v ho
    obtain ⟨W', hr, hs, rfl⟩ := upd_sound hT h (hev m) (hev k) (hev v) hv
    exact made_wp (by rw [ho]; simp) (by simp only [execOp, ho, Sem.run_bind, hr, Result.andThen_ok, Sem.run_pure]) (.inr ⟨rfl, rfl⟩) (hn E undef W' (hs.weak fun _ hj => hj.1) trivial)
  · rename_i t m k co ho
    obtain ⟨v, hr, hx, rfl⟩ := look_sound hT h (hev m) (hev k) hv
    exact made_wp (by rw [ho]; simp) (by simp only [execOp, ho, Sem.run_bind, hr, Result.andThen_ok, Sem.run_pure]) (.inl rfl) (hn E v W (h.weak fun _ hj => hj.1) hx)
  · rename_i t y ho
    exact hmade (rangeMap_sound hT h hf hev o ho hv) (by rw [ho]; simp)
  · rename_i y ho
    obtain ⟨v, hr, hx, rfl⟩ := entry_sound (P := P) h (hev y) hv
    exact made_wp (by rw [ho]; simp) (by simp only [execOp, ho, Sem.run_bind, hr, Result.andThen_ok, Sem.run_pure]) (.inl rfl) (hn E v W (h.weak fun _ hj => hj.1) hx)
  · rename_i t m k ho
    exact hmade (ment_sound hT h hf hev o ho hv) (by rw [ho]; simp)
  · rename_i t m s v ho
    obtain ⟨W', hr, hs, rfl⟩ := mest_sound (P := P) (t := t) h (hev m) (hev s) (hev v) hv
    exact made_wp (by rw [ho]; simp) (by simp only [execOp, ho, Sem.run_bind, hr, Result.andThen_ok, Sem.run_pure]) (.inr ⟨rfl, rfl⟩) (hn E undef W' (hs.weak fun _ hj => hj.1) trivial)
  · rename_i cl ho
    obtain ⟨callee, cargs, ctys⟩ := cl
    simp only at hv
    split at hv
    · split at hv
      · rename_i s y t u e1 e2
        obtain ⟨rfl⟩ : cargs = #[s, y] := by rw [← Array.toList_inj]; exact e1
        obtain ⟨rfl⟩ : ctys = #[t, u] := by rw [← Array.toList_inj]; exact e2
        cases hb : Nat.beq t u with
        | false => rw [hb] at hv; cases hv
        | true =>
          rw [hb] at hv
          obtain rfl := Nat.eq_of_beq_eq_true hb
          exact hmade (append_sound hT h hf hev o ho hv hc) (by rw [ho]; simp)
      · cases hv
    · split at hv
      · rename_i s y t u e1 e2
        obtain ⟨rfl⟩ : cargs = #[s, y] := by rw [← Array.toList_inj]; exact e1
        obtain ⟨rfl⟩ : ctys = #[t, u] := by rw [← Array.toList_inj]; exact e2
        cases hb : Nat.beq t u with
        | false => rw [hb] at hv; cases hv
        | true =>
          rw [hb] at hv
          obtain rfl := Nat.eq_of_beq_eq_true hb
          obtain ⟨v, W', hr, hs, hx⟩ := copy_sound (ty := o.type) hT h (hev s) (hev y) hv hc
          refine made_wp (by rw [ho]; simp) ?_ (.inl rfl) (hn E v W' (hs.weak fun _ hj => hj.1) (by assumption))
          simp only [execOp, ho, resolve, invoke, builtin, Sem.run_bind, Sem.run_pure, Result.andThen_ok, List.map_toArray, List.map_cons, List.map_nil, hr]
      · cases hv
    · split at hv
      · rename_i y t e1 e2
        obtain ⟨rfl⟩ : cargs = #[y] := by rw [← Array.toList_inj]; exact e1
        obtain ⟨rfl⟩ : ctys = #[t] := by rw [← Array.toList_inj]; exact e2
        obtain ⟨W', hr, hs, rfl⟩ := clear_sound (ρ := a.eval) (ty := o.type) hT h (hev y) hv hc
        refine made_wp (v := .tuple #[]) (by rw [ho]; simp) ?_ (.inl rfl) (hn E _ W' (hs.weak fun _ hj => hj.1) trivial)
        simp only [execOp, ho, resolve, invoke, builtin, Sem.run_bind, Sem.run_pure, Result.andThen_ok, List.map_toArray, List.map_cons, List.map_nil, hr]
      · cases hv
    · split at hv
      · rename_i m k t u e1 e2
        obtain ⟨rfl⟩ : cargs = #[m, k] := by rw [← Array.toList_inj]; exact e1
        obtain ⟨rfl⟩ : ctys = #[t, u] := by rw [← Array.toList_inj]; exact e2
        obtain ⟨W', hr, hs, rfl⟩ := del_sound (u := u) (ty := o.type) hT h (hev m) (hev k) hv
        refine made_wp (v := .tuple #[]) (by rw [ho]; simp) ?_ (.inl rfl) (hn E _ W' (hs.weak fun _ hj => hj.1) trivial)
        simp only [execOp, ho, resolve, invoke, builtin, Sem.run_bind, Sem.run_pure, Result.andThen_ok, List.map_toArray, List.map_cons, List.map_nil, hr]
      · cases hv
    · rename_i f
      obtain ⟨g, fs, cs, hu, hent, hcall⟩ := call_sound h hf (hev f) (l := cargs.toList.map st.ev) (us := cargs.toList.map a.eval) (by simp) (fun j hj => by
        simp only [List.length_map, Array.length_toList] at hj
        simp only [List.getD_eq_getElem?_getD, List.getElem?_map, Array.getElem?_toList, Array.getElem?_eq_getElem hj, Option.map_some, Option.getD_some]
        exact hev _) hv hc
      refine ⟨fun _ _ => trivial, ?_⟩
      rw [Oper.semAt_eq _ _ _ (by rw [ho]; simp)]
      have hrun : (execOp a.eval o).run P W = .ok (.enter g (fs ++ (cargs.toList.map a.eval).toArray ++ cs)) W := by
        simp only [execOp, ho, resolve, hu, Deferred.ofValue, invoke, Sem.run_bind, Sem.run_pure, Result.andThen_ok]
        have : cargs.map a.eval = (cargs.toList.map a.eval).toArray := by rw [← Array.toList_map, Array.toArray_toList]
        rw [this]; exact hent _ _
      rw [hrun]
      refine And.intro (fun hd => by cases hd) ?_
      have hin : CallsIn (Fr0 ro) (n - 1) P g (fs ++ (cargs.toList.map a.eval).toArray ++ cs) W _ := (callsIn_wide (n := n - 1)).2 hcall
      refine hin.mono ?_
      rintro e W' ⟨v, E', rfl, hs, hx⟩
      exact hn E' v W' hs hx
    · simp only [Option.map_eq_some_iff] at hv
      obtain ⟨⟨c', s'⟩, hl, e⟩ := hv
      cases e
      exact hpure (by rw [ho]; exact hl) hc hn (by rw [ho]; simp)
  · simp only [Option.map_eq_some_iff] at hv
    obtain ⟨⟨c', s'⟩, hl, e⟩ := hv
    cases e
    refine hpure hl hc hn ?_
    intro c e
    rw [e] at hl; cases hl
end
end Go.Px
end

/-! PxR -/
noncomputable section
namespace Go.Px
open Go Go.RowKit
/-- The nodes of a condition: an obligation; a branch; a callee's result to be named. -/
structure Ob (p rest : Prop) : Prop where
  c : p
  r : p → rest
structure Sp (b : Bool) (X Y : Prop) : Prop where
  t : b = true → X
  f : b = false → Y
structure Cl (f : CR → Prop) : Prop where
  ex : ∃ r, f r
def forceV (u : Value) (K : Value → Prop) : Prop :=
  match u with
  | .int k n => match k with
    | .i64 => K (.int .i64 n)
    | k => K (.int k n)
  | .bool b => match b with
    | b => K (.bool b)
  | u => K u
def forceD (y : DV) (K : DV → Prop) : Prop :=
  match y with
  | .v u => forceV u fun u => K (.v u)
  | .top => K .top
  | .ag n f => K (.ag n f)
  | .tp n f => K (.tp n f)
  | .sl t k n f => K (.sl t k n f)
  | .pt x o => K (.pt x o)
  | .fn g n m f c => K (.fn g n m f c)
  | .mp kt m => K (.mp kt m)
noncomputable def forceN (n : Nat) (K : Nat → Prop) : Prop := Nat.rec (motive := fun _ => Prop) (K 0) (fun k _ => K (k + 1)) n
theorem forceN_iff (n : Nat) (K : Nat → Prop) : forceN n K ↔ K n := by cases n <;> exact Iff.rfl
/-- The same, told to be made out. -/
noncomputable def force (x : AV) (K : AV → Prop) : Prop :=
  match x with
  | .d y => forceD y fun y => K (.d y)
  | .ref i o => forceN i fun i => K (.ref i o)
  | .el i k j o => forceN i fun i => K (.el i k j o)
  | .ms i k o n => forceN i fun i => K (.ms i k o n)
  | .ag n f => K (.ag n f)
  | .fn g n m f c => K (.fn g n m f c)
  | .mp id => forceN id fun id => K (.mp id)
  | .tp n f => K (.tp n f)
  | .sub id k i => forceN id fun id => K (.sub id k i)
  | .stp id => forceN id fun id => K (.stp id)
theorem forceV_iff (u : Value) (K : Value → Prop) : forceV u K ↔ K u := by
  unfold forceV; split
  · split <;> exact Iff.rfl
  · exact Iff.rfl
  · exact Iff.rfl
theorem forceD_iff (y : DV) (K : DV → Prop) : forceD y K ↔ K y := by
  unfold forceD; split <;> first | exact forceV_iff _ _ | exact Iff.rfl
theorem force_iff (x : AV) (K : AV → Prop) : force x K ↔ K x := by
  cases x <;> first | exact forceD_iff _ (fun y => K (.d y)) | exact Iff.rfl | exact forceN_iff _ (fun i => K (.ref i _)) | exact forceN_iff _ (fun i => K (.el i _ _ _)) | exact forceN_iff _ (fun i => K (.ms i _ _ _)) | exact forceN_iff _ (fun i => K (.mp i)) | exact forceN_iff _ (fun i => K (.sub i _ _)) | exact forceN_iff _ (fun i => K (.stp i))
/-- The same for a state. -/
noncomputable def forceS (s : St) (K : St → Prop) : Prop := St.rec (motive := fun _ => Prop) (fun n nx tm hp gh => forceN n fun n => forceN nx fun nx => K ⟨n, nx, tm, hp, gh⟩) s
theorem forceS_iff (s : St) (K : St → Prop) : forceS s K ↔ K s := by
  obtain ⟨n, nx, tm, hp, gh⟩ := s
  cases n <;> cases nx <;> exact Iff.rfl
/-- A slot that others are guarded by is looked at when it is written. -/
def isB (g : Bool) (x : AV) : Prop := g = true → ∃ b, x = .d (.v (.bool b))
noncomputable def alt (g : Bool) (x : AV) (K : AV → Prop) : Prop :=
  bif g then (match x with
    | .d (.v (.bool b)) => Sp b (K (.d (.v (.bool true)))) (K (.d (.v (.bool false))))
    | _ => False)
  else force x K
theorem alt_iff (g : Bool) (x : AV) (K : AV → Prop) : alt g x K ↔ isB g x ∧ K x := by
  unfold alt
  cases g with
  | false => simp [force_iff, isB]
  | true =>
    simp only [cond_true]
    constructor
    · intro h
      split at h
      · rename_i b
        refine ⟨fun _ => ⟨b, rfl⟩, ?_⟩
        cases b with
        | true => exact h.t rfl
        | false => exact h.f rfl
      · exact h.elim
    · rintro ⟨h1, h2⟩
      obtain ⟨b, rfl⟩ := h1 rfl
      cases b with
      | true => exact ⟨fun _ => h2, nofun⟩
      | false => exact ⟨nofun, fun _ => h2⟩
def isCallOp : Op → Bool
  | .call { callee := .value _, .. } => true
  | _ => false
def guards (ol : List Oper) (i : Nat) : Bool := ol.any fun o => match o.guard with
  | some (j, _) => Nat.beq j i
  | none => false
def wantedV (ol : List Oper) (o : Oper) (st : St) : Option Bool :=
  match o.guard with
  | none => some true
  | some (j, w) => match ol[j]? with
    | some oj => match oj.dst with
      | some d => bif Nat.blt d st.n then (match st.tm d with
        | .d (.v (.bool b)) => some (match b with
          | true => w
          | false => !w)
        | .d (.v (.tuple _)) => some false
        | _ => none) else none
      | none => none
    | none => none
/-- What has been done, and with which memories: read, written. -/
structure Tr where
  i : Nat
  o : Oper
  rd : List Nat
  wr : List Nat
/-- Where an order is drawn: how an operation's footprint is told, and which earlier ones it surely follows. -/
structure Chk where
  fp : Oper → Nat → St → CR → List Nat × List Nat
  ok : Nat → Oper → List Nat → List Nat → List Tr → Bool
def fin (x : Option (Prop × AV × St)) (K : Prop → AV → St → Prop) : Prop :=
  match x with
  | none => False
  | some (c, x, s) => K c x s
/-- Conditions that surely hold. -/
def isT : Op → Bool
  | .move _ | .assign _ | .pick .. | .nilCheck _ | .fieldAddr .. | .makeFunc .. | .alloc _ | .box .. | .makeMap .. | .mapUpdate .. | .insert .. | .lookup .. | .range .. | .entry .. => true
  | _ => false
/-- What the loop that a yield belongs to is handed: the loop's record, how many, each. -/
structure Yp where
  l : Nat
  N : Nat
  Y : Nat → List DV
/-- A call of yield: an obligation, both answers. -/
structure Yl (p X Y : Prop) : Prop where
  c : p
  t : X
  f : Y
/-- A call of a function that is told by its value: of yield. -/
def yieldOf (op : Op) (st : St) : Option (Value × List AV) :=
  match op with
  | .call { callee := .value f, args, .. } => match st.ev f with
    | .d (.v u) => some (u, args.toList.map st.ev)
    | _ => none
  | _ => none
/-- A step of a range over a map: the iterator. -/
def nextOf (op : Op) (st : St) : Option (Nat × KT × (List Int → Option Int) × List (List Int)) :=
  match op with
  | .next x false => match st.ev x with
    | .ref id 0 => match st.hp id with
      | some (.it true kt f seen _) => some (id, kt, f, seen)
      | _ => none
    | _ => none
  | _ => none
def allK : Nat → (List Int → Prop) → Prop
  | 0, p => p []
  | n + 1, p => ∀ a, allK n fun l => p (a :: l)
theorem allK_iff : ∀ {n : Nat} {p : List Int → Prop}, allK n p ↔ ∀ k, k.length = n → p k
  | 0, p => ⟨fun h k hk => by rw [List.length_eq_zero_iff] at hk; subst hk; exact h, fun h => h [] rfl⟩
  | n + 1, p => by
    simp only [allK, allK_iff (n := n)]
    constructor
    · intro h k hk
      cases k with
      | nil => cases hk
      | cons a l => exact h a l (by simpa using hk)
    · intro h a l hl
      exact h (a :: l) (by simp [hl])
/-- A step of a range over a map: some entry that was not given yet; or none is left. -/
structure Nx (n : Nat) (f : List Int → Option Int) (seen : List (List Int)) (X : List Int → Int → Prop) (Y : Prop) : Prop where
  s : allK n fun k => ∀ x, f k = some x → k ∉ seen → X k x
  e : (∀ k x, f k = some x → k ∈ seen) → Y
def nxD (kt : KT) (k : List Int) (x : Int) : DV := .tp 3 fun j => match j with
  | 0 => .v (.bool true)
  | 1 => keyD kt k
  | _ => .v (.int .i64 x)
def nxE : DV := .tp 1 fun _ => .v (.bool false)
def nxS (st : St) (id : Nat) (kt : KT) (f : List Int → Option Int) (seen : List (List Int)) (k : List Int) (x : Int) : St := st.set id (some (.it true kt f (k :: seen) (some (k, x))))
/-- Is a slice of n elements nil? That is not known where n = 0. -/
def nilOf (T : Nat → Option TI) (op : Op) (st : St) : Option (Nat × Bool) :=
  match op with
  | .binOp op t x (.const (.slice none 0 0)) _ => match st.ev x with
    | .d (.sl _ _ n _) => match T t with
      | some { d := .slice _, .. } => match op with
        | .eql => some (n, true)
        | .neq => some (n, false)
        | _ => none
      | _ => none
    | _ => none
  | _ => none
structure Uk (b : Bool) (p : Prop) (X : Bool → Prop) : Prop where
  t : p → X b
  f : X (!b)
/-- An append behind an offset: it stays there, or goes to a new place. -/
def apO (T : Nat → Option TI) (op : Op) (st : St) : Option (Nat × Nat × Nat × Nat × Nat × (Nat → DV) × Prop × Nat × (Nat → DV)) :=
  match op with
  | .call c => match c.callee with
    | .builtin .append => match c.args.toList, c.argTypes.toList with
      | [s, x], [t, u] => match st.ev s with
        | .ms id k off n => match Nat.beq off 0 with
          | true => none
          | false => match st.hp id with
            | some (.row true U k' n' f) => match T t with
              | some ti => match ti.d with
                | .slice e => match T e with
                  | some te => match srcV st te.size (st.ev x) with
                    | some (cx, m, g) => match Nat.beq t u && (Nat.ble te.bytes 1048576 && Nat.blt 0 te.size) && (Nat.beq k te.size && Nat.beq k' te.size && Nat.beq U e) with
                      | true => some (id, e, te.size, off, n, f, cx ∧ n' = off + n ∧ n + m ≤ 1048576, m, g)
                      | false => none
                    | none => none
                  | none => none
                | _ => none
              | none => none
            | _ => none
        | _ => none
      | _, _ => none
    | _ => none
  | _ => none
def apS (st : St) (i id e k o' n m : Nat) (h : Nat → DV) : St := (st.set id none).set i (some (.row true e k (o' + (n + m)) h))
/-- Where it is then, and what is there. -/
def apW (off n : Nat) (f g : Nat → DV) (o' : Nat) (h : Nat → DV) : Prop := (o' = 0 ∧ h = apd n (fun j => f (off + j)) g) ∨ (o' = off ∧ h = apd (off + n) f g)
theorem apO_call {T : Nat → Option TI} {op : Op} {st : St} {y} (h : apO T op st = some y) : ∀ c, op ≠ .defer c := by
  rintro c rfl
  simp [apO] at h
/-- An append with room, behind an offset. -/
theorem run_append_room_at {P : Program} (w : World) (t ty e : TypeId) (i : TypeInfo) (ht : P.underlying t = some (.slice e)) (hi : P.info? e = some i)
    (g off sLen sCap : Nat) (cur : Array Value) (hg : w.heap[g]? = some (.cells cur e (0, 0)))
    (a : Addr) (m c : Nat) (news : List Value) (hl : news.length = m * i.size) (hnews : ∀ j u, news[j]? = some u → w.cell? (a.add j) = some u) (h1 : ∀ u ∈ news, u.oneCell' = true)
    (hroom : sLen + m ≤ sCap) (hfit : off + sLen * i.size + news.length ≤ cur.size) :
    (Builtin.append_ #[t, t] ty #[.slice (some ⟨g, off, none⟩) sLen sCap, .slice (some a) m c]).run P w =
      .ok (.slice (some ⟨g, off, none⟩) (sLen + m) sCap) (w.setRow g (splice cur (off + sLen * i.size) news)) := by
  have hf := run_firstCells_some (P := P) w i.size m a m c news hl hnews
  have hst := run_storeCells_at P g (off + sLen * i.size) e news 0 cur w hg (by simpa using hfit) h1
  simp only [Nat.add_zero] at hst
  simp [Builtin.append_, run_underlying ht, sizeOf, typeInfo, hi, Builtin.lenOf, hroom, hf, Addr.add_lit, hst, splice]
section
variable {P : Program} {T : Nat → Option TI}
theorem apO_sound (hT : TsOk P T) {B : Base} {Fr : Nat → Prop} {E : Env} {st : St} {a : Act} {W : World} (h : Sat B Fr E st a W) {i : Nat} (hf : Fr i) {ρ : Operand → Value} (hev : ∀ x, RepA E W (st.ev x) (ρ x)) (o : Oper) {id e k off n : Nat} {f : Nat → DV} {c : Prop} {m : Nat} {g : Nat → DV}
    (hv : apO T o.op st = some (id, e, k, off, n, f, c, m, g)) (hc : c) : ∃ o' hh, apW off n f g o' hh ∧ Made P B Fr i (apS st i id e k o' n m hh) a W ρ o (.ms i k o' (n + m)) := by
  unfold apO at hv
  split at hv
  · rename_i cl ho
    obtain ⟨callee, cargs, ctys⟩ := cl
    simp only at hv
    split at hv
    · split at hv
      · rename_i s x t u e1 e2
        obtain ⟨rfl⟩ : cargs = #[s, x] := by rw [← Array.toList_inj]; exact e1
        obtain ⟨rfl⟩ : ctys = #[t, u] := by rw [← Array.toList_inj]; exact e2
        split at hv
        · rename_i id' kk off' n' es
          split at hv
          · cases hv
          · split at hv
            · rename_i U k' m' f' hid
              split at hv
              · rename_i ti ht
                split at hv
                · rename_i ee hd
                  split at hv
                  · rename_i te he
                    split at hv
                    · rename_i cx m2 g2 hsrc
                      split at hv
                      · rename_i hb
                        cases hv
                        simp only [Bool.and_eq_true] at hb
                        obtain rfl := Nat.eq_of_beq_eq_true hb.1.1
                        have hby := Nat.le_of_ble_eq_true hb.1.2.1
                        have hpos := blt_iff.1 hb.1.2.2
                        obtain rfl := Nat.eq_of_beq_eq_true hb.2.1.1
                        have hk' := Nat.eq_of_beq_eq_true hb.2.1.2
                        obtain rfl := Nat.eq_of_beq_eq_true hb.2.2
                        subst hk'
                        have hkt := hT t ti ht
                        have hke := hT U te he
                        obtain ⟨hcx, rfl, hlim⟩ := hc
                        obtain ⟨ax, capx, hux, M, hM, hax⟩ := src_sound h hpos (hev x) hsrc hcx
                        have hs0 := hev s
                        rw [es] at hs0
                        have hrow := h.hp id _ hid
                        have hshape : ∃ ao cap, ρ s = .slice ao n cap ∧ n ≤ cap ∧ (ao = none → n = 0 ∧ cap = 0) := by
                          rcases hs0 with ⟨_, rfl, hr⟩ | ⟨b, p, cap, cc, U', _, hr, hn, _⟩
                          · exact ⟨none, 0, hr, Nat.le_refl _, fun _ => ⟨rfl, rfl⟩⟩
                          · exact ⟨_, cap, hr, hn, by simp⟩
                        have hun : E.ρ id ≠ .un := by
                          rcases hrow with ⟨h1, _⟩ | ⟨b, cc, h1, _⟩ <;> rw [h1] <;> simp
                        have eE : ∀ j, apd (off + n) f g j = if j < off + n then f j else g (j - (off + n)) := fun j => rfl
                        by_cases hm : m = 0
                        · subst hm
                          refine ⟨off, _, .inr ⟨rfl, rfl⟩, ?_⟩
                          obtain ⟨ao, cap, hr, hn, _⟩ := hshape
                          have hrun := append_run (P := P) (W := W) (ρ := ρ) ho (v := .slice ao n cap) (W' := W) (by rw [hr, hux]; exact append_zero hkt hke hd hn)
                          have hr' : SatR B E W id (.row true U te.size (off + (n + 0)) (apd (off + n) f g)) := by
                            rcases hrow with ⟨h1, h2⟩ | ⟨b, cc, h1, h2, h3, h4, h5⟩
                            · exact .inl ⟨h1, h2⟩
                            · refine .inr ⟨b, cc, h1, h2, h3, h4, fun j hj => ?_⟩
                              have h6 := h5 j hj
                              rw [eE, if_pos (show j < off + n from hj)]; exact h6
                          have hu := h.upd (r := .row true U te.size (off + (n + 0)) (apd (off + n) f g)) (by rw [hid]; simp) hr'
                          have hm' := hu.move (id := id) (i := i) (set_hp_self _ _ _) hf hun
                          rw [set_set] at hm'
                          refine ⟨_, _, _, _, hrun, .inl rfl, hm', ?_⟩
                          rw [← hr]
                          rcases hs0 with ⟨h1, h2, h3⟩ | ⟨b, p, cap', cc, U', h1, h2, h3, h4, h5, h6⟩
                          · exact .inl ⟨by rw [env_set_self]; exact h1, h2, h3⟩
                          · exact .inr ⟨b, p, cap', cc, U', by rw [env_set_self]; exact h1, h2, h3, h4, h5, h6⟩
                        · have e0 : (Res.row true U te.size (0 + (n + m)) (apd n (fun j => f (off + j)) g)) = .row true U te.size (n + m) fun j => if j < n then f (off + j) else g (j - n) := by
                            rw [Nat.zero_add]
                            rfl
                          have grow : ∀ {N : Nat → Value} {cap : Nat} {ao : Option Addr}, Els E.S W te.size n (fun j => f (off + j)) N → ρ s = .slice ao n cap → cap < n + m → (ao = none → n = 0 ∧ cap = 0) → (n ≠ 0 → ∃ b p, ao = some ⟨b, p, none⟩ ∧ ∀ j, j < n * te.size → W.cell? ⟨b, p + j, none⟩ = some (N j)) →
                              Made P B Fr i (apS st i id U te.size 0 n m (apd n (fun j => f (off + j)) g)) a W ρ o (.ms i te.size 0 (n + m)) := by
                            intro N cap ao hN hr hg hnil hao
                            unfold apS
                            rw [e0]
                            exact append_grows (h.drop id) hf hkt hke hd ho hby hpos hN hM hr hux (by omega) hg hlim hnil hao hax
                          rcases hs0 with ⟨h1, rfl, hr⟩ | ⟨b, p, cap, cc, U', hb', hr, hn, hcm, hh, hsz⟩
                          · exact ⟨0, _, .inl ⟨rfl, rfl⟩, grow (N := fun _ => undef) (fun j hj => absurd hj (Nat.not_lt_zero j)) hr (by omega) (fun _ => ⟨rfl, rfl⟩) (fun h => absurd rfl h)⟩
                          · rcases hrow with ⟨h1, _⟩ | ⟨b2, c2, hb2, hh2, hsz2, hown, hels⟩
                            · rw [hb'] at h1; cases h1
                            · rw [hb'] at hb2; cases hb2
                              rw [hh] at hh2; cases hh2
                              have hels' : Els E.S W te.size (off + n) f fun j => cc.getD j undef := hels
                              have hsh : Els E.S W te.size n (fun j => f (off + j)) fun j => cc.getD (off * te.size + j) undef := by
                                intro j hj
                                have := hels' (off + j) (by omega)
                                simp only [Nat.add_mul, Nat.add_assoc] at this ⊢
                                exact this
                              by_cases hroom : n + m ≤ cap
                              · have hp0 : p = off * te.size ∧ (off + cap) * te.size ≤ cc.size := by
                                  rcases hsz with h1 | ⟨_, h2⟩
                                  · exact h1
                                  · omega
                                obtain ⟨rfl, hcsz⟩ := hp0
                                refine ⟨off, _, .inr ⟨rfl, rfl⟩, ?_⟩
                                obtain ⟨bx, px, rfl, hcx'⟩ := hax hm
                                obtain ⟨inf, hi, hz, hisz, hbb⟩ := hke.info
                                have hu := hkt.u
                                rw [hd] at hu
                                have hadd : ∀ j, (⟨bx, px, none⟩ : Addr).add j = ⟨bx, px + j, none⟩ := fun j => by unfold Addr.add; split <;> simp_all
                                have hfit : (off + n + m) * te.size ≤ cc.size := Nat.le_trans (Nat.mul_le_mul_right _ (by omega)) hcsz
                                have hofn : off * te.size + n * te.size = (off + n) * te.size := (Nat.add_mul ..).symm
                                have hrr := run_append_room_at (P := P) W t o.type U inf hu hi b (off * te.size) n cap cc hh ⟨bx, px, none⟩ m capx (news (m * te.size) M) (by rw [news_len, hisz]) (fun j v hj => by
                                  obtain ⟨h1, rfl⟩ := news_get _ _ hj
                                  rw [hadd]; exact hcx' j h1) (fun v hv => by
                                  obtain ⟨q, hq, rfl⟩ := List.mem_map.1 hv
                                  exact els_one hpos hM (List.mem_range.1 hq)) hroom (by rw [news_len, hisz, hofn, ← Nat.add_mul]; exact hfit)
                                rw [hisz, hofn] at hrr
                                have hrun := append_run (P := P) (W := W) (ρ := ρ) ho (v := .slice (some ⟨b, off * te.size, none⟩) (n + m) cap) (W' := W.setRow b (splice cc ((off + n) * te.size) (news (m * te.size) M))) (by rw [hr, hux]; exact hrr)
                                have hlen : (off + n) * te.size + (news (m * te.size) M).length ≤ cc.size := by rw [news_len, ← Nat.add_mul]; exact hfit
                                have hset := setRow_heap W b cc (splice cc ((off + n) * te.size) (news (m * te.size) M)) U (0, 0) hh
                                have hown' : ¬ E.S b ∧ B.ow b := hown
                                have hev' : Ev E W E (W.setRow b (splice cc ((off + n) * te.size) (news (m * te.size) M))) :=
                                  ⟨fun _ h => h, fun q hq => setRow_other W b q _ (fun e => hown'.1 (e ▸ hq)), fun _ _ => rfl, fun q c3 T3 hq => by
                                    by_cases e : q = b
                                    · subst e; rw [hh] at hq; cases hq; exact ⟨_, hset, splice_size hlen⟩
                                    · exact ⟨c3, (setRow_other W b q _ e).trans hq, rfl⟩⟩
                                have hsp := els_splice (p := off + n) hels' hM hfit
                                rcases hsp with hsp | hsp
                                · have hr' : SatR B E (W.setRow b (splice cc ((off + n) * te.size) (news (m * te.size) M))) id (.row true U te.size (off + (n + m)) (apd (off + n) f g)) := by
                                    refine .inr ⟨b, _, hb', hset, by rw [splice_size hlen, ← Nat.add_assoc]; exact hfit, hown, fun j hj => ?_⟩
                                    have h2 := hsp j (by omega)
                                    rw [eE]
                                    by_cases h8 : j < off + n
                                    · rw [if_pos h8]
                                      simp only [if_neg (show ¬ (off + n ≤ j ∧ j < off + n + m) by omega)] at h2
                                      exact ⟨h2.1.ev hev', h2.2⟩
                                    · rw [if_neg h8]
                                      simp only [if_pos (show off + n ≤ j ∧ j < off + n + m by omega)] at h2
                                      exact ⟨h2.1.ev hev', h2.2⟩
                                  have hw := h.write (r := .row true U te.size (off + (n + m)) (apd (off + n) f g)) (by rw [hid]; simp) hb' hh hown' (splice_size hlen) hr'
                                  have hm' := hw.move (id := id) (i := i) (set_hp_self _ _ _) hf (by rw [hb']; simp)
                                  rw [set_set] at hm'
                                  exact ⟨_, _, _, _, hrun, .inl rfl, hm', .inr ⟨b, off * te.size, cap, _, U, by rw [env_set_self]; exact hb', rfl, hroom, hcm, hset, .inl ⟨rfl, by rw [splice_size hlen]; exact hcsz⟩⟩⟩
                                · omega
                              · refine ⟨0, _, .inl ⟨rfl, rfl⟩, grow hsh hr (by omega) (by simp) fun hn0 => ⟨b, p, rfl, fun j hj => ?_⟩⟩
                                rcases hsz with ⟨rfl, h2⟩ | ⟨h1, _⟩
                                · refine cell_at hh (Nat.lt_of_lt_of_le ?_ h2)
                                  have : n * te.size ≤ cap * te.size := Nat.mul_le_mul_right _ hn
                                  rw [Nat.add_mul]; omega
                                · exact absurd h1 hn0
                      · cases hv
                    · cases hv
                  · cases hv
                · cases hv
              · cases hv
            · cases hv
        · cases hv
      · cases hv
    · cases hv
  · cases hv
end
structure Ap (c : Prop) (off n : Nat) (f g : Nat → DV) (X : Nat → (Nat → DV) → Prop) : Prop where
  ok : c
  z : c → X 0 (apd n (fun j => f (off + j)) g)
  o : c → X off (apd (off + n) f g)
noncomputable def yst (st : St) (l : List AV) (g : Option Nat) : St := St.rec (motive := fun _ => St) (fun n nx tm hp _ => ⟨n, nx, tm, hp, g⟩) (st.frzs (reachs st l))
def obl (t : Bool) (c rest : Prop) : Prop := bif t then rest else Ob c rest
def zipI : Nat → List Oper → List (Nat × Oper)
  | _, [] => []
  | i, o :: l => (i, o) :: zipI (i + 1) l
theorem zipI_map : ∀ (l : List Oper) (i : Nat), (zipI i l).map (·.1) = List.range' i l.length
  | [], _ => rfl
  | o :: l, i => by simp [zipI, zipI_map l (i + 1), List.range'_succ]
theorem zipI_get : ∀ (l : List Oper) (i : Nat) (p : Nat × Oper), p ∈ zipI i l → i ≤ p.1 ∧ l[p.1 - i]? = some p.2
  | [], _, p, h => by cases h
  | o :: l, i, p, h => by
    rcases List.mem_cons.1 h with rfl | h
    · simp
    · obtain ⟨h1, h2⟩ := zipI_get l (i + 1) p h
      refine ⟨by omega, ?_⟩
      have : p.1 - i = (p.1 - (i + 1)) + 1 := by omega
      rw [this]; simpa using h2
section
variable (P : Program) (T : Nat → Option TI) (y : Option Yp) (C : Option Chk) (ol : List Oper) (base : Nat)
def chk (i : Nat) (o : Oper) (st : St) (r : CR) (tr : List Tr) (K : List Tr → Prop) : Prop :=
  match C with
  | none => K tr
  | some C => match C.ok i o (C.fp o (base + i) st r).1 (C.fp o (base + i) st r).2 tr with
    | true => K (⟨i, o, (C.fp o (base + i) st r).1, (C.fp o (base + i) st r).2⟩ :: tr)
    | false => False
noncomputable def runOps : List (Nat × Oper) → List Tr → St → (St → Prop) → Prop
  | [], _, st, K => K st
  | (i, o) :: l, tr, st, K => match wantedV ol o st with
    | none => False
    | some false => chk C base i o st (.dv .top) tr fun tr => forceS (st.put o.dst (.d (.v undef))) fun s => runOps l tr s K
    | some true => match isCallOp o.op with
      | true => match yieldOf o.op st with
        | some (u, args) => (match C, y, st.gh with
          | none, some y, some k => Yl (u = .func (.yield y.l) #[] #[] ∧ okDVs st args ∧ k < y.N ∧ DImps (args.map (toDV fuel st.hp)) (y.Y k))
              (forceS ((yst st args (some (k + 1))).put o.dst (.d (.v (.bool true)))) fun s => runOps l tr s K) (forceS ((yst st args none).put o.dst (.d (.v (.bool false)))) fun s => runOps l tr s K)
          | _, _, _ => False)
        | none => Cl fun r => fin (stepV P T (base + i) o.op o.type st r) fun c x s => Ob c (chk C base i o st r tr fun tr => alt (guards ol i) x fun z => forceS (s.put o.dst z) fun s => runOps l tr s K)
      | false => match nextOf o.op st with
        | some (id, kt, f, seen) => (match C with
          | none => Nx kt.n f seen (fun k x => forceS ((nxS st id kt f seen k x).put o.dst (.d (nxD kt k x))) fun s => runOps l tr s K) (forceS (st.put o.dst (.d nxE)) fun s => runOps l tr s K)
          | some _ => False)
        | none => match nilOf T o.op st with
          | some (n, b) => (match C with
            | none => Uk b (n = 0) fun b => forceS (st.put o.dst (.d (.v (.bool b)))) fun s => runOps l tr s K
            | some _ => False)
          | none => match apO T o.op st with
            | some (id, e, k, off, n, f, c, m, g) => (match C with
              | none => Ap c off n f g fun o' h => forceS ((apS st (base + i) id e k o' n m h).put o.dst (.ms (base + i) k o' (n + m))) fun s => runOps l tr s K
              | some _ => False)
            | none => fin (stepV P T (base + i) o.op o.type st (.dv .top)) fun c x s => obl (isT o.op) c (chk C base i o st (.dv .top) tr fun tr => alt (guards ol i) x fun z => forceS (s.put o.dst z) fun s => runOps l tr s K)
/-- One operation, as a relation. -/
inductive One (i : Nat) (o : Oper) (st : St) : CR → St → Prop
  | skip : wantedV ol o st = some false → One i o st (.dv .top) (st.put o.dst (.d (.v undef)))
  | run (r : CR) (c : Prop) (x : AV) (s : St) : wantedV ol o st = some true → stepV P T (base + i) o.op o.type st r = some (c, x, s) → c → isB (guards ol i) x → One i o st r (s.put o.dst x)
inductive Run : List (Nat × Oper) → List Tr → St → St → Prop
  | nil (tr st) : Run [] tr st st
  | cons (i o l tr st r s st' tr') : One P T ol base i o st r s → chk C base i o st r tr (· = tr') → Run l tr' s st' → Run ((i, o) :: l) tr st st'
end
section
variable {P : Program} {T : Nat → Option TI} {y : Option Yp} {C : Option Chk} {ol : List Oper} {base : Nat}
theorem chk_iff (i : Nat) (o : Oper) (st : St) (r : CR) (tr : List Tr) (K : List Tr → Prop) : chk C base i o st r tr K ↔ ∃ tr', chk C base i o st r tr (· = tr') ∧ K tr' := by
  unfold chk
  cases C with
  | none => simp
  | some C =>
    simp only
    split <;> simp
theorem updV_t {t : Nat} {m k v : AV} {st : St} {c : Prop} {x : AV} {s : St} (h : updV T t m k v st = some (c, x, s)) : c := by
  unfold updV at h
  split at h
  · split at h
    · revert h
      cases (ktEq _ _ && IntKind.eq _ _) with
      | true => intro h; cases h; trivial
      | false => intro h; cases h
    · cases h
  · cases h
theorem isT_sound {i : Nat} {op : Op} {ty : Nat} {st : St} {r : CR} {c : Prop} {x : AV} {s : St} (ht : isT op = true) (h : stepV P T i op ty st r = some (c, x, s)) : c := by
  have hp : ∀ op' : Op, isT op' = true → ∀ c x, pureV T op' st.ev = some (c, x) → c := by
    intro op' ht c x h
    cases op' <;> first | cases ht | skip
    case move => cases h; trivial
    case assign => cases h; trivial
    case pick =>
      simp only [pureV] at h
      split at h
      · split at h <;> cases h <;> trivial
      · cases h
    case nilCheck =>
      simp only [pureV] at h
      split at h <;> cases h <;> trivial
    case makeFunc f _ _ =>
      cases f <;> simp only [pureV] at h <;> first | (cases h; trivial) | cases h
    case fieldAddr =>
      simp only [pureV] at h
      split at h
      · split at h
        · revert h
          cases Nat.beq _ 0 with
          | true => intro h; cases h
          | false =>
            simp only [cond_false]
            intro h
            split at h <;> cases h <;> trivial
        · cases h
      · cases h
    all_goals (simp [pureV] at h)
  have hm : ∀ op' : Op, isT op' = true → (pureV T op' st.ev).map (fun p => (p.1, p.2, st)) = some (c, x, s) → c := by
    intro op' ht h
    simp only [Option.map_eq_some_iff] at h
    obtain ⟨⟨c', x'⟩, h1, h2⟩ := h
    cases h2
    exact hp op' ht _ _ h1
  unfold stepV at h
  split at h
  · cases ht
  · unfold allocV at h
    split at h
    · revert h
      cases isArr _ with
      | true =>
        simp only [cond_true]
        intro h
        split at h
        · split at h
          · revert h
            cases List.all _ _ with
            | true => intro h; cases h; trivial
            | false => intro h; cases h
          · cases h
        · cases h
      | false => intro h; cases h; trivial
    · cases h
  · unfold boxV at h
    split at h
    · revert h
      cases isArr _ with
      | true =>
        simp only [cond_true]
        intro h
        split at h
        · revert h
          cases Nat.beq _ _ with
          | true => intro h; cases h; trivial
          | false => intro h; cases h
        · cases h
      | false => intro h; cases h; trivial
    · cases h
  · cases ht
  · cases ht
  · cases ht
  · unfold nilV at h
    split at h
    · split at h
      · split at h
        · cases h; trivial
        · cases h
      · cases h
    · cases h
  · cases ht
  · cases ht
  · cases ht
  · unfold makeMapV at h
    split at h <;> cases h
    trivial
  · exact updV_t h
  · exact updV_t h
  · unfold lookV at h
    split at h
    · split at h
      · revert h
        cases ktEq _ _ with
        | true => intro h; cases h; trivial
        | false => intro h; cases h
      · cases h
    · cases h
  · unfold rangeMapV at h
    split at h
    · split at h
      · cases h; trivial
      · split at h
        · cases h; trivial
        · cases h
      · cases h
    · cases h
  · unfold entryV at h
    split at h
    · split at h
      · cases h; trivial
      · cases h
    · cases h
  · cases ht
  · cases ht
  · cases ht
  · exact hm _ ht h
theorem obl_iff {t : Bool} {c rest : Prop} (h : t = true → c) : obl t c rest ↔ c ∧ rest := by
  unfold obl
  cases t with
  | true => simp [h rfl]
  | false =>
    simp only [cond_false]
    exact ⟨fun h => ⟨h.c, h.r h.c⟩, fun h => ⟨h.1, fun _ => h.2⟩⟩
theorem runOps_run {C0 : Chk} : ∀ (l : List (Nat × Oper)) (tr : List Tr) (st : St) (K : St → Prop), runOps P T y (some C0) ol base l tr st K → ∃ st', Run P T (some C0) ol base l tr st st' ∧ K st'
  | [], tr, st, K, h => ⟨st, .nil tr st, h⟩
  | (i, o) :: l, tr, st, K, h => by
    unfold runOps at h
    split at h
    · exact h.elim
    · rename_i hw
      obtain ⟨tr', h1, h2⟩ := (chk_iff ..).1 h
      obtain ⟨st', h3, h4⟩ := runOps_run l tr' _ K ((forceS_iff ..).1 h2)
      exact ⟨st', .cons _ _ _ _ _ _ _ _ tr' (.skip hw) h1 h3, h4⟩
    · rename_i hw
      split at h
      · split at h
        · exact h.elim
        · obtain ⟨r, h⟩ := h.ex
          unfold fin at h
          split at h
          · exact h.elim
          · rename_i c x s hs
            obtain ⟨tr', h1, h2⟩ := (chk_iff ..).1 (h.r h.c)
            obtain ⟨hb, h2⟩ := (alt_iff ..).1 h2
            obtain ⟨st', h3, h4⟩ := runOps_run l tr' _ K ((forceS_iff ..).1 h2)
            exact ⟨st', .cons _ _ _ _ _ _ _ _ tr' (.run r c x s hw hs h.c hb) h1 h3, h4⟩
      · split at h
        · exact h.elim
        · split at h
          · exact h.elim
          · split at h
            · exact h.elim
            · unfold fin at h
              split at h
              · exact h.elim
              · rename_i c x s hs
                obtain ⟨hc, h⟩ := (obl_iff fun ht => isT_sound ht hs).1 h
                obtain ⟨tr', h1, h2⟩ := (chk_iff ..).1 h
                obtain ⟨hb, h2⟩ := (alt_iff ..).1 h2
                obtain ⟨st', h3, h4⟩ := runOps_run l tr' _ K ((forceS_iff ..).1 h2)
                exact ⟨st', .cons _ _ _ _ _ _ _ _ tr' (.run (.dv .top) c x s hw hs hc hb) h1 h3, h4⟩
theorem wanted_sound {B : Base} {Fr : Nat → Prop} {E : Env} {st : St} {a : Act} {W : World} (h : Sat B Fr E st a W) {ops : Array Oper} (hol : ol = ops.toList) {o : Oper} {b : Bool} (hw : wantedV ol o st = some b) : Region.wanted o (yielded ops a.tmps) = b := by
  unfold wantedV at hw
  unfold Region.wanted
  split at hw
  · rename_i hg; rw [hg]; cases hw; rfl
  · rename_i j w hg
    rw [hg]
    simp only
    split at hw
    · rename_i oj hj
      split at hw
      · rename_i d hd
        cases hlt : Nat.blt d st.n with
        | false => rw [hlt] at hw; cases hw
        | true =>
          rw [hlt] at hw
          have hlt := blt_iff.1 hlt
          simp only [cond_true] at hw
          split at hw
          · rename_i b' hb
            have hr := h.tm d hlt
            rw [hb] at hr
            have hsz : d < a.tmps.size := by rw [h.size]; exact hlt
            have hv : a.tmps[d]? = some (.bool b') := by
              rw [Array.getElem?_eq_getElem hsz]
              have : a.tmps.getD d undef = .bool b' := hr
              simp only [Array.getD, hsz, dif_pos] at this
              exact congrArg some this
            have hy : yielded ops a.tmps j = some b' := by
              unfold yielded
              rw [← Array.getElem?_toList, ← hol, hj]
              simp only [Option.bind_some, hd, hv]
            rw [hy]
            cases hw
            cases b' <;> cases w <;> rfl
          · rename_i tt hb
            cases hw
            have hr := h.tm d hlt
            rw [hb] at hr
            have hsz : d < a.tmps.size := by rw [h.size]; exact hlt
            have hv : a.tmps[d]? = some (.tuple tt) := by
              rw [Array.getElem?_eq_getElem hsz]
              have : a.tmps.getD d undef = .tuple tt := hr
              simp only [Array.getD, hsz, dif_pos] at this
              exact congrArg some this
            have hy : yielded ops a.tmps j = none := by
              unfold yielded
              rw [← Array.getElem?_toList, ← hol, hj]
              simp only [Option.bind_some, hd, hv]
            rw [hy]; rfl
          · cases hw
      · cases hw
    · cases hw
def frd (base : Nat) (done : List Nat) (j : Nat) : Prop := base ≤ j ∧ ∀ k ∈ done, j ≠ base + k
theorem put_defers (a : Act) (d : Option Nat) (v : Value) : (a.put d v).defers = a.defers := by cases d <;> rfl
theorem St.put_next (st : St) (d : Option Nat) (x : AV) : (st.put d x).next = st.next := by cases d <;> rfl
theorem noDefer_step {i : Nat} {op : Op} {ty : Nat} {st : St} {r : CR} {c : Prop} {x : AV} {s : St} (h : stepV P T i op ty st r = some (c, x, s)) : ∀ c, op ≠ .defer c := by
  rintro c rfl
  simp [stepV, pureV] at h
theorem one_sound (hT : TsOk P T) {B : Base} {done : List Nat} {E : Env} {st : St} {a : Act} {W : World} (h : Sat B (frd base done) E st a W) {ops : Array Oper} (hol : ol = ops.toList) {i : Nat} {o : Oper} (hi : ops[i]? = some o) (hd : i ∉ done)
    {r : CR} {s : St} (h1 : One P T ol base i o st r s) {ro : Option Nat} {n : Nat} {Q : Exit → Act → World → Prop} {K : Act → World → Prop}
    (hk : ∀ E' a' W', Sat B (frd base (i :: done)) E' s a' W' → a'.defers = a.defers → K a' W') : wpOpIn (Fr0 ro) n P ops Q i K a W := by
  have hF : frd base done (base + i) := ⟨Nat.le_add_right _ _, fun k hk e => hd ((show i = k by omega) ▸ hk)⟩
  have hfw : ∀ j, frd base (i :: done) j → frd base done j ∧ j ≠ base + i := fun j hj => ⟨⟨hj.1, fun k hk => hj.2 k (List.mem_cons_of_mem _ hk)⟩, hj.2 i (List.mem_cons_self ..)⟩
  unfold wpOpIn
  rw [hi]
  simp only
  cases h1 with
  | skip hw =>
    rw [wanted_sound h hol hw]
    simp only [Bool.false_eq_true, if_false]
    exact ⟨fun _ _ => trivial, hk E _ W ((h.weak fun j hj => (hfw j hj).1).put o.dst rfl) (put_defers ..)⟩
  | run r c x s hw hs hc hb =>
    rw [wanted_sound h hol hw]
    simp only [if_true]
    exact step_sound hT h hF o hs hc fun E' v W' h2 h3 => hk E' _ W' ((h2.weak hfw).put o.dst h3) (put_defers ..)
end
end Go.Px
end

/-! PxU -/
noncomputable section
namespace Go.Px
open Go Go.RowKit
/-- All names that lie on the way. -/
def vis : Nat → (Nat → Option Res) → AV → List Nat
  | 0, _, _ => []
  | _ + 1, _, .d _ => []
  | n + 1, hp, .ref id _ => id :: (match hp id with
    | some (.cs _ m f) => (List.range m).flatMap fun j => vis n hp (f j)
    | _ => [])
  | _ + 1, _, .el id _ _ _ => [id]
  | _ + 1, _, .ms id _ _ _ => [id]
  | n + 1, hp, .ag m f => (List.range m).flatMap fun j => vis n hp (f j)
  | n + 1, hp, .fn _ a b f c => ((List.range a).flatMap fun j => vis n hp (f j)) ++ (List.range b).flatMap fun j => vis n hp (c j)
  | _ + 1, _, .mp id => [id]
  | n + 1, hp, .tp m f => (List.range m).flatMap fun j => vis n hp (f j)
  | _ + 1, _, .sub id _ _ => [id]
  | _ + 1, _, .stp id => [id]
theorem flatMap_congr' {α β : Type} {f g : α → List β} : ∀ {l : List α}, (∀ x ∈ l, f x = g x) → l.flatMap f = l.flatMap g
  | [], _ => rfl
  | x :: l, h => by simp only [List.flatMap_cons]; rw [h x (List.mem_cons_self ..), flatMap_congr' fun y hy => h y (List.mem_cons_of_mem _ hy)]
theorem all_congr {m : Nat} {p q : Nat → Prop} (h : ∀ j, j < m → p j = q j) : (∀ j, j < m → p j) = ∀ j, j < m → q j :=
  propext ⟨fun hp j hj => h j hj ▸ hp j hj, fun hq j hj => (h j hj).symm ▸ hq j hj⟩
theorem vis_congr {hp hp2 : Nat → Option Res} : ∀ (n : Nat) (x : AV), (∀ id ∈ vis n hp x, hp2 id = hp id) → vis n hp2 x = vis n hp x ∧ toDV n hp2 x = toDV n hp x ∧ reach n hp2 x = reach n hp x ∧ (okDV n hp2 x = okDV n hp x) := by
  intro n
  induction n with
  | zero => intro x _; exact ⟨rfl, rfl, rfl, rfl⟩
  | succ n ih =>
    intro x h
    cases x with
    | d y => exact ⟨rfl, rfl, rfl, rfl⟩
    | ref id off =>
      have h0 : hp2 id = hp id := h id (by simp [vis])
      simp only [vis, toDV, reach, okDV, h0]
      cases hr : hp id with
      | none => exact ⟨rfl, rfl, rfl, rfl⟩
      | some r =>
        cases r with
        | row mt T k m f => exact ⟨rfl, rfl, rfl, rfl⟩
        | mp mt kt m => exact ⟨rfl, rfl, rfl, rfl⟩
        | it mt kt m seen cur => exact ⟨rfl, rfl, rfl, rfl⟩
        | me mt kt m l born => exact ⟨rfl, rfl, rfl, rfl⟩
        | cs mt m f =>
          have hj : ∀ j, j < m → _ := fun j hj => ih (f j) fun i hi => h i (by
            simp only [vis, hr, List.mem_cons]
            exact .inr (List.mem_flatMap.2 ⟨j, List.mem_range.2 hj, hi⟩))
          simp only
          refine ⟨?_, ?_, ?_, AllN.congr fun j hj' => (hj j hj').2.2.2⟩
          · rw [flatMap_congr' fun j hj' => (hj j (List.mem_range.1 hj')).1]
          · rw [clp_congr fun j hj' => (hj j hj').2.1]
          · rw [flatMap_congr' fun j hj' => (hj j (List.mem_range.1 hj')).2.2.1]
    | el id k i off =>
      have h0 : hp2 id = hp id := h id (by simp [vis])
      simp only [vis, toDV, reach, okDV, h0]
      exact ⟨trivial, trivial, trivial, trivial⟩
    | ms id k off m =>
      have h0 : hp2 id = hp id := h id (by simp [vis])
      simp only [vis, toDV, reach, okDV, h0]
      exact ⟨trivial, trivial, trivial, trivial⟩
    | mp id =>
      have h0 : hp2 id = hp id := h id (by simp [vis])
      simp only [vis, toDV, reach, okDV, h0]
      exact ⟨trivial, trivial, trivial, trivial⟩
    | sub id k i => exact ⟨rfl, rfl, rfl, rfl⟩
    | stp id => exact ⟨rfl, rfl, rfl, rfl⟩
    | tp m f =>
      have hj : ∀ j, j < m → _ := fun j hj => ih (f j) fun i hi => h i (by
        simp only [vis]
        exact List.mem_flatMap.2 ⟨j, List.mem_range.2 hj, hi⟩)
      simp only [vis, toDV, reach, okDV]
      refine ⟨?_, ?_, ?_, AllN.congr fun j hj' => (hj j hj').2.2.2⟩
      · rw [flatMap_congr' fun j hj' => (hj j (List.mem_range.1 hj')).1]
      · rw [clp_congr fun j hj' => (hj j hj').2.1]
      · rw [flatMap_congr' fun j hj' => (hj j (List.mem_range.1 hj')).2.2.1]
    | ag m f =>
      have hj : ∀ j, j < m → _ := fun j hj => ih (f j) fun i hi => h i (by
        simp only [vis]
        exact List.mem_flatMap.2 ⟨j, List.mem_range.2 hj, hi⟩)
      simp only [vis, toDV, reach, okDV]
      refine ⟨?_, ?_, ?_, AllN.congr fun j hj' => (hj j hj').2.2.2⟩
      · rw [flatMap_congr' fun j hj' => (hj j (List.mem_range.1 hj')).1]
      · rw [clp_congr fun j hj' => (hj j hj').2.1]
      · rw [flatMap_congr' fun j hj' => (hj j (List.mem_range.1 hj')).2.2.1]
    | fn g a b f c =>
      have hf : ∀ j, j < a → _ := fun j hj => ih (f j) fun i hi => h i (by
        simp only [vis]
        exact List.mem_append_left _ (List.mem_flatMap.2 ⟨j, List.mem_range.2 hj, hi⟩))
      have hc : ∀ j, j < b → _ := fun j hj => ih (c j) fun i hi => h i (by
        simp only [vis]
        exact List.mem_append_right _ (List.mem_flatMap.2 ⟨j, List.mem_range.2 hj, hi⟩))
      simp only [vis, toDV, reach, okDV]
      refine ⟨?_, ?_, ?_, ?_⟩
      · rw [flatMap_congr' fun j hj' => (hf j (List.mem_range.1 hj')).1, flatMap_congr' fun j hj' => (hc j (List.mem_range.1 hj')).1]
      · rw [clp_congr fun j hj' => (hf j hj').2.1, clp_congr fun j hj' => (hc j hj').2.1]
      · rw [flatMap_congr' fun j hj' => (hf j (List.mem_range.1 hj')).2.2.1, flatMap_congr' fun j hj' => (hc j (List.mem_range.1 hj')).2.2.1]
      · rw [AllN.congr fun j hj' => (hf j hj').2.2.2, AllN.congr fun j hj' => (hc j hj').2.2.2]
theorem reach_vis {hp : Nat → Option Res} {id : Nat} : ∀ (n : Nat) (x : AV), id ∈ reach n hp x → id ∈ vis n hp x := by
  intro n
  induction n with
  | zero => intro x h; exact h
  | succ n ih =>
    intro x h
    cases x with
    | d y => exact h
    | ref i off =>
      simp only [reach] at h
      simp only [vis]
      cases hr : hp i with
      | none => rw [hr] at h; simp at h
      | some r =>
        rw [hr] at h
        cases r with
        | row mt T k m f => simp at h
        | mp mt kt m => simp at h
        | it mt kt m seen cur => simp at h
        | me mt kt m l born => simp at h
        | cs mt m f =>
          simp only [List.mem_cons] at h ⊢
          refine h.imp (fun e => e) fun h => ?_
          obtain ⟨j, hj, hx⟩ := List.mem_flatMap.1 h
          exact List.mem_flatMap.2 ⟨j, hj, ih _ hx⟩
    | el i k j off =>
      simp only [reach] at h
      simp only [vis]
      split at h
      · revert h
        cases arrB _ _ _ _ with
        | true => exact fun h => h
        | false => intro h; simp at h
      · simp at h
    | ms i k off m =>
      simp only [reach] at h
      split at h
      · exact h
      · simp at h
    | mp i =>
      simp only [reach] at h
      split at h
      · exact h
      · simp at h
    | sub i k j => simp [reach] at h
    | stp i => simp [reach] at h
    | tp m f =>
      obtain ⟨j, hj, hx⟩ := List.mem_flatMap.1 h
      exact List.mem_flatMap.2 ⟨j, hj, ih _ hx⟩
    | ag m f =>
      obtain ⟨j, hj, hx⟩ := List.mem_flatMap.1 h
      exact List.mem_flatMap.2 ⟨j, hj, ih _ hx⟩
    | fn g a b f c =>
      rcases List.mem_append.1 h with h | h
      · obtain ⟨j, hj, hx⟩ := List.mem_flatMap.1 h
        exact List.mem_append_left _ (List.mem_flatMap.2 ⟨j, hj, ih _ hx⟩)
      · obtain ⟨j, hj, hx⟩ := List.mem_flatMap.1 h
        exact List.mem_append_right _ (List.mem_flatMap.2 ⟨j, hj, ih _ hx⟩)
def visL (hp : Nat → Option Res) (l : List AV) : List Nat := l.flatMap (vis fuel hp)
/-- The names of an address, or of a slice. -/
def idsA : AV → List Nat
  | .ref id _ => [id]
  | .el id _ _ _ => [id]
  | .ms id _ _ _ => [id]
  | .mp id => [id]
  | .sub id _ _ => [id]
  | .stp id => [id]
  | _ => []
/-- What a call reads of memory; what it changes. -/
def callFp (hp : Nat → Option Res) (i : Nat) (f : AV) (l : List AV) (r : CR) : List Nat × List Nat :=
  match r with
  | .dv r => match calleeV f l with
    | some (_, l) => bif r.flat then (visL hp l, []) else ([], visL hp l)
    | none => ([], [])
  | .ip _ _ => ([], visL hp l)
  | .nw .. => match calleeV f l with
    | some (_, l) => ([], i :: visL hp l)
    | none => ([], [])
  | .ln _ => match calleeV f l with
    | some (_, l) => (visL hp l, [])
    | none => ([], [])
/-- What an operation reads of memory; what it changes. -/
def fpV (o : Oper) (i : Nat) (st : St) (r : CR) : List Nat × List Nat :=
  match o.op with
  | .load _ x => (idsA (st.ev x), [])
  | .alloc _ => ([], [i])
  | .box _ _ => ([], [i])
  | .makeSlice _ _ _ => ([], [i])
  | .buildSlice _ _ parts => ([], i :: visL st.hp (parts.toList.map fun p => st.ev p.2))
  | .store _ ad x => ([], idsA (st.ev ad) ++ visL st.hp [st.ev x])
  | .assign (.const (.slice none 0 0)) => ([], [i])
  | .slice _ x none _ (some _) => ([], idsA (st.ev x))
  | .slice _ x none none none => (idsA (st.ev x), [])
  | .slice _ x none (some _) none => (idsA (st.ev x), [])
  | .makeMap _ none => ([], [i])
  | .mapUpdate _ m _ _ => ([], idsA (st.ev m))
  | .insert _ m _ _ => ([], idsA (st.ev m))
  | .lookup _ m _ _ => (idsA (st.ev m), [])
  | .range _ x => ([], i :: idsA (st.ev x))
  | .entry x => (idsA (st.ev x), [])
  | .mapEntry _ m _ => ([], i :: idsA (st.ev m))
  | .entryStore _ m s _ => ([], idsA (st.ev m) ++ idsA (st.ev s))
  | .call c => match c.callee with
    | .builtin .append => ([], i :: (c.args.toList.map st.ev).flatMap idsA)
    | .builtin .copy => ([], (c.args.toList.map st.ev).flatMap idsA)
    | .builtin .clear => ([], (c.args.toList.map st.ev).flatMap idsA)
    | .builtin .delete => ([], (c.args.toList.map st.ev).flatMap idsA)
    | .value f => callFp st.hp i (st.ev f) (c.args.toList.map st.ev) r
    | _ => ([], [])
  | _ => ([], [])
/-- The same step elsewhere: s of st, s2 of st2; the memories wr are changed alike, no others. -/
structure Lo (wr : List Nat) (st st2 s s2 : St) : Prop where
  a : ∀ id, id ∈ wr → s2.hp id = s.hp id
  b : ∀ id, id ∉ wr → s2.hp id = st2.hp id
  c : ∀ id, id ∉ wr → s.hp id = st.hp id
  t : s.tm = st.tm ∧ s.n = st.n ∧ s.next = st.next ∧ s.gh = st.gh
  t2 : s2.tm = st2.tm ∧ s2.n = st2.n ∧ s2.next = st2.next ∧ s2.gh = st2.gh
theorem Lo.refl {wr : List Nat} {st st2 : St} (h : ∀ id, id ∈ wr → st2.hp id = st.hp id) : Lo wr st st2 st st2 := ⟨h, fun _ _ => rfl, fun _ _ => rfl, ⟨rfl, rfl, rfl, rfl⟩, ⟨rfl, rfl, rfl, rfl⟩⟩
theorem Lo.set {wr : List Nat} {st st2 s s2 : St} (h : Lo wr st st2 s s2) {i : Nat} (hi : i ∈ wr) (r : Option Res) : Lo wr st st2 (s.set i r) (s2.set i r) := by
  refine ⟨fun id hid => ?_, fun id hid => ?_, fun id hid => ?_, h.t, h.t2⟩
  · by_cases e : id = i
    · subst e; rw [set_hp_self, set_hp_self]
    · rw [set_hp_other _ _ e, set_hp_other _ _ e]; exact h.a id hid
  · rw [set_hp_other _ _ (fun e => hid (by rw [e]; exact hi))]; exact h.b id hid
  · rw [set_hp_other _ _ (fun e => hid (by rw [e]; exact hi))]; exact h.c id hid
theorem Lo.frz {wr : List Nat} {st st2 s s2 : St} (h : Lo wr st st2 s s2) {i : Nat} (hi : i ∈ wr) : Lo wr st st2 (s.frz i) (s2.frz i) := by
  unfold St.frz
  rw [h.a i hi]
  cases s.hp i with
  | none => exact h
  | some r => exact h.set hi _
theorem Lo.frzs {wr : List Nat} {st st2 : St} : ∀ (l : List Nat) {s s2 : St}, Lo wr st st2 s s2 → (∀ i, i ∈ l → i ∈ wr) → Lo wr st st2 (s.frzs l) (s2.frzs l)
  | [], _, _, h, _ => h
  | i :: l, _, _, h, hl => Lo.frzs l (h.frz (hl i (List.mem_cons_self ..))) fun j hj => hl j (List.mem_cons_of_mem _ hj)
section
variable {P : Program} {T : Nat → Option TI} {st st2 : St}
theorem visL_mem {hp : Nat → Option Res} {l : List AV} {x : AV} (h : x ∈ l) {id : Nat} (hi : id ∈ vis fuel hp x) : id ∈ visL hp l := List.mem_flatMap.2 ⟨x, h, hi⟩
theorem okDVs_congr : ∀ (l : List AV), (∀ id, id ∈ visL st.hp l → st2.hp id = st.hp id) → okDVs st2 l = okDVs st l
  | [], _ => rfl
  | x :: l, h => by
    simp only [okDVs]
    rw [(vis_congr fuel x fun id hid => h id (visL_mem (List.mem_cons_self ..) hid)).2.2.2, okDVs_congr l fun id hid => h id (by
      simp only [visL, List.flatMap_cons, List.mem_append]; exact .inr hid)]
theorem reachs_congr (l : List AV) (h : ∀ id, id ∈ visL st.hp l → st2.hp id = st.hp id) : reachs st2 l = reachs st l :=
  flatMap_congr' fun x hx => (vis_congr fuel x fun id hid => h id (visL_mem hx hid)).2.2.1
theorem toDVs_congr (l : List AV) (h : ∀ id, id ∈ visL st.hp l → st2.hp id = st.hp id) : l.map (toDV fuel st2.hp) = l.map (toDV fuel st.hp) :=
  List.map_congr_left fun x hx => (vis_congr fuel x fun id hid => h id (visL_mem hx hid)).2.1
theorem visL_congr (l : List AV) (h : ∀ id, id ∈ visL st.hp l → st2.hp id = st.hp id) : visL st2.hp l = visL st.hp l :=
  flatMap_congr' fun x hx => (vis_congr fuel x fun id hid => h id (visL_mem hx hid)).1
theorem reachs_vis {l : List AV} {id : Nat} (h : id ∈ reachs st l) : id ∈ visL st.hp l := by
  obtain ⟨x, hx, hi⟩ := List.mem_flatMap.1 h
  exact visL_mem hx (reach_vis _ _ hi)
variable {c : Prop} {x : AV} {s : St}
theorem alloc_loc {i t : Nat} {wr : List Nat} (hi : i ∈ wr) (ha : ∀ id, id ∈ wr → st2.hp id = st.hp id) (h : allocV T i t st = some (c, x, s)) : ∃ s2, allocV T i t st2 = some (c, x, s2) ∧ Lo wr st st2 s s2 := by
  have h0 := Lo.refl ha
  unfold allocV at h ⊢
  split at h
  · cases hb : isArr _ with
    | true =>
      rw [hb] at h
      simp only [cond_true] at h ⊢
      split at h
      · split at h
        · cases hb2 : List.all _ _ with
          | true => rw [hb2] at h; simp only [cond_true] at h ⊢; cases h; exact ⟨_, rfl, h0.set hi _⟩
          | false => rw [hb2] at h; cases h
        · cases h
      · cases h
    | false => rw [hb] at h; simp only [cond_false] at h ⊢; cases h; exact ⟨_, rfl, h0.set hi _⟩
  · cases h
theorem box_loc {i t : Nat} {y : AV} {wr : List Nat} (hi : i ∈ wr) (ha : ∀ id, id ∈ wr → st2.hp id = st.hp id) (h : boxV T i t y st = some (c, x, s)) : ∃ s2, boxV T i t y st2 = some (c, x, s2) ∧ Lo wr st st2 s s2 := by
  have h0 := Lo.refl ha
  unfold boxV at h ⊢
  split at h
  · cases hb : isArr _ with
    | true =>
      rw [hb] at h
      simp only [cond_true] at h ⊢
      split at h
      · cases hb2 : Nat.beq _ _ with
        | true => rw [hb2] at h; simp only [cond_true] at h ⊢; cases h; exact ⟨_, rfl, h0.set hi _⟩
        | false => rw [hb2] at h; cases h
      · cases h
    | false => rw [hb] at h; simp only [cond_false] at h ⊢; cases h; exact ⟨_, rfl, h0.set hi _⟩
  · cases h
theorem makeSlice_loc {i t : Nat} {l k : AV} {wr : List Nat} (hi : i ∈ wr) (ha : ∀ id, id ∈ wr → st2.hp id = st.hp id) (h : makeSliceV T i t l k st = some (c, x, s)) : ∃ s2, makeSliceV T i t l k st2 = some (c, x, s2) ∧ Lo wr st st2 s s2 := by
  have h0 := Lo.refl ha
  unfold makeSliceV at h ⊢
  split at h
  · split at h
    · split at h
      · cases hb2 : (Nat.ble _ _ && Nat.blt _ _) with
        | true => rw [hb2] at h; simp only [cond_true] at h ⊢; cases h; exact ⟨_, rfl, h0.set hi _⟩
        | false => rw [hb2] at h; cases h
      · cases h
    · cases h
  · cases h
theorem nil_loc {i t : Nat} {wr : List Nat} (hi : i ∈ wr) (ha : ∀ id, id ∈ wr → st2.hp id = st.hp id) (h : nilV T i t st = some (c, x, s)) : ∃ s2, nilV T i t st2 = some (c, x, s2) ∧ Lo wr st st2 s s2 := by
  have h0 := Lo.refl ha
  unfold nilV at h ⊢
  split at h
  · split at h
    · split at h
      · cases h; exact ⟨_, rfl, h0.set hi _⟩
      · cases h
    · cases h
  · cases h
theorem partsE_congr {ev2 : Operand → AV} (k len : Nat) : ∀ (l : List (Nat × Operand)), (∀ p, p ∈ l → ev2 p.2 = st.ev p.2) → (∀ id, id ∈ visL st.hp (l.map fun p => st.ev p.2) → st2.hp id = st.hp id) → partsE st2 k len ev2 l = partsE st k len st.ev l
  | [], _, _ => rfl
  | (i, y) :: l, he, h => by
    have h1 : ev2 y = st.ev y := he (i, y) (List.mem_cons_self ..)
    have h2 : toDV fuel st2.hp (st.ev y) = toDV fuel st.hp (st.ev y) := (vis_congr fuel _ fun id hid => h id (visL_mem (List.mem_cons_self ..) hid)).2.1
    simp only [partsE, h1, h2]
    rw [partsE_congr k len l (fun p hp => he p (List.mem_cons_of_mem _ hp)) fun id hid => h id (by
      simp only [List.map_cons, visL, List.flatMap_cons, List.mem_append]; exact .inr hid)]
theorem buildSlice_loc {i t len : Nat} {parts : List (Nat × Operand)} {wr : List Nat} (he : ∀ p, p ∈ parts → st2.ev p.2 = st.ev p.2) (hw : wr = i :: visL st.hp (parts.map fun p => st.ev p.2)) (ha : ∀ id, id ∈ wr → st2.hp id = st.hp id)
    (h : buildSliceV T i t len parts st = some (c, x, s)) : ∃ s2, buildSliceV T i t len parts st2 = some (c, x, s2) ∧ Lo wr st st2 s s2 := by
  have h0 := Lo.refl ha
  have hv : ∀ id, id ∈ visL st.hp (parts.map fun p => st.ev p.2) → st2.hp id = st.hp id := fun id hid => ha id (hw ▸ List.mem_cons_of_mem _ hid)
  have hm : (parts.map fun p => st2.ev p.2) = parts.map fun p => st.ev p.2 := List.map_congr_left he
  unfold buildSliceV at h ⊢
  split at h
  · split at h
    · split at h
      · rename_i te _
        simp only [partsE_congr (st2 := st2) te.size len parts he hv, hm, okDVs_congr _ hv, reachs_congr _ hv]
        split at h
        · cases hb2 : (Nat.ble _ _ && Nat.blt _ _) with
          | true =>
            rw [hb2] at h; simp only [cond_true] at h ⊢; cases h
            exact ⟨_, rfl, (Lo.frzs _ h0 fun j hj => hw ▸ List.mem_cons_of_mem _ (reachs_vis hj)).set (hw ▸ List.mem_cons_self ..) _⟩
          | false => rw [hb2] at h; cases h
        · cases h
      · cases h
    · cases h
  · cases h
theorem store_loc {t : Nat} {ad y : AV} {wr : List Nat} (hw : wr = idsA ad ++ visL st.hp [y]) (ha : ∀ id, id ∈ wr → st2.hp id = st.hp id) (h : storeV T t ad y st = some (c, s)) : ∃ s2, storeV T t ad y st2 = some (c, s2) ∧ Lo wr st st2 s s2 := by
  have h0 := Lo.refl ha
  have hv : ∀ id, id ∈ visL st.hp [y] → st2.hp id = st.hp id := fun id hid => ha id (hw ▸ List.mem_append_right _ hid)
  have hvy : vis fuel st.hp y = visL st.hp [y] := by simp [visL]
  have hc := vis_congr (hp2 := st2.hp) fuel y (by rw [hvy]; exact hv)
  have hre : ∀ i, i ∈ reach fuel st.hp y → i ∈ wr := fun i hi => hw ▸ List.mem_append_right _ (hvy ▸ reach_vis _ _ hi)
  unfold storeV at h ⊢
  split at h
  · cases hb : Nat.beq _ _ with
    | false => rw [hb] at h; cases h
    | true =>
      rw [hb] at h
      simp only [cond_true] at h ⊢
      split at h
      · rename_i id off
        have hid : id ∈ wr := hw ▸ List.mem_append_left _ (by simp [idsA])
        simp only [ha id hid]
        split at h
        · cases h; exact ⟨_, rfl, h0.set hid _⟩
        · cases h
      · rename_i id k i off
        have hid : id ∈ wr := hw ▸ List.mem_append_left _ (by simp [idsA])
        simp only [ha id hid, hc]
        split at h
        · cases hb2 : Nat.beq _ _ with
          | false => rw [hb2] at h; cases h
          | true =>
            rw [hb2] at h
            simp only [cond_true] at h ⊢
            cases hb3 : (Nat.beq _ k && Nat.beq off 0) with
            | true =>
              rw [hb3] at h; simp only [cond_true] at h ⊢
              cases h; exact ⟨_, rfl, (Lo.frzs _ h0 hre).set hid _⟩
            | false =>
              rw [hb3] at h; simp only [cond_false] at h ⊢
              cases hb4 : Nat.beq k 1 with
              | true =>
                rw [hb4] at h; simp only [cond_true] at h ⊢
                cases hb5 : Nat.beq off 0 with
                | true =>
                  rw [hb5] at h; simp only [cond_true] at h ⊢
                  cases h; exact ⟨_, rfl, h0.set hid _⟩
                | false => rw [hb5] at h; cases h
              | false =>
                rw [hb4] at h; simp only [cond_false] at h ⊢
                cases h; exact ⟨_, rfl, (Lo.frzs _ h0 hre).set hid _⟩
        · cases h
      · cases h
  · cases h
theorem src_congr {k : Nat} {y : AV} (h : ∀ id, id ∈ idsA y → st2.hp id = st.hp id) : srcV st2 k y = srcV st k y := by
  unfold srcV
  split
  · rw [h _ (by simp [idsA])]
  · rfl
  · rfl
  · rfl
theorem append_loc {i t : Nat} {y z : AV} {wr : List Nat} (hw : wr = i :: [y, z].flatMap idsA) (ha : ∀ id, id ∈ wr → st2.hp id = st.hp id) (h : appendV T i t y z st = some (c, x, s)) : ∃ s2, appendV T i t y z st2 = some (c, x, s2) ∧ Lo wr st st2 s s2 := by
  have h0 := Lo.refl ha
  have hi : i ∈ wr := hw ▸ List.mem_cons_self ..
  have hy : ∀ id, id ∈ idsA y → id ∈ wr := fun id hid => by rw [hw]; simp [hid]
  have hz : ∀ id, id ∈ idsA z → id ∈ wr := fun id hid => by rw [hw]; simp [hid]
  have sy : ∀ k, srcV st2 k y = srcV st k y := fun k => src_congr fun id hid => ha id (hy id hid)
  have sz : ∀ k, srcV st2 k z = srcV st k z := fun k => src_congr fun id hid => ha id (hz id hid)
  unfold appendV at h ⊢
  split at h
  · split at h
    · split at h
      · cases hb2 : (Nat.ble _ _ && Nat.blt _ _) with
        | false => rw [hb2] at h; cases h
        | true =>
          rw [hb2] at h; simp only [cond_true, sz] at h ⊢
          split at h
          · split at h
            · rename_i id k off n
              have hid := hy id (by simp [idsA])
              simp only [ha id hid]
              split at h
              · cases hb3 : (Nat.beq _ _ && Nat.beq _ _ && Nat.beq _ _ && Nat.beq _ _) with
                | false => rw [hb3] at h; cases h
                | true => rw [hb3] at h; simp only [cond_true] at h ⊢; cases h; exact ⟨_, rfl, (h0.set hid _).set hi _⟩
              · cases h
            · cases hb3 : tightV y with
              | false => rw [hb3] at h; cases h
              | true =>
                rw [hb3] at h; simp only [cond_true, sy] at h ⊢
                split at h
                · cases h; exact ⟨_, rfl, h0.set hi _⟩
                · cases h
          · cases h
      · cases h
    · cases h
  · cases h
theorem clear_loc {t : Nat} {y : AV} {wr : List Nat} (hw : wr = [y].flatMap idsA) (ha : ∀ id, id ∈ wr → st2.hp id = st.hp id) (h : clearV T t y st = some (c, x, s)) : ∃ s2, clearV T t y st2 = some (c, x, s2) ∧ Lo wr st st2 s s2 := by
  have h0 := Lo.refl ha
  have hy : ∀ id, id ∈ idsA y → id ∈ wr := fun id hid => by rw [hw]; simp [hid]
  unfold clearV at h ⊢
  split at h
  · split at h
    · split at h
      · split at h
        · rename_i id k off n
          have hid := hy id (by simp [idsA])
          simp only [ha id hid]
          split at h
          · cases hb3 : (Nat.beq _ _ && Nat.beq _ _ && Nat.blt _ _) with
            | false => rw [hb3] at h; cases h
            | true => rw [hb3] at h; simp only [cond_true] at h ⊢; cases h; exact ⟨_, rfl, h0.set hid _⟩
          · cases h
        · rename_i id k i
          have hid := hy id (by simp [idsA])
          simp only [ha id hid]
          split at h
          · cases hb3 : (Nat.beq _ _ && Nat.beq _ _ && Nat.blt _ _) with
            | false => rw [hb3] at h; cases h
            | true => rw [hb3] at h; simp only [cond_true] at h ⊢; cases h; exact ⟨_, rfl, h0.set hid _⟩
          · cases h
        · cases h
      · cases h
    · cases h
  · cases h
theorem makeMap_loc {i t : Nat} {wr : List Nat} (hi : i ∈ wr) (ha : ∀ id, id ∈ wr → st2.hp id = st.hp id) (h : makeMapV T i t st = some (c, x, s)) : ∃ s2, makeMapV T i t st2 = some (c, x, s2) ∧ Lo wr st st2 s s2 := by
  have h0 := Lo.refl ha
  unfold makeMapV at h ⊢
  split at h
  · cases h; exact ⟨_, rfl, h0.set hi _⟩
  · cases h
theorem upd_loc {t : Nat} {m k v : AV} {wr : List Nat} (hw : ∀ id, id ∈ idsA m → id ∈ wr) (ha : ∀ id, id ∈ wr → st2.hp id = st.hp id) (h : updV T t m k v st = some (c, x, s)) : ∃ s2, updV T t m k v st2 = some (c, x, s2) ∧ Lo wr st st2 s s2 := by
  have h0 := Lo.refl ha
  unfold updV at h ⊢
  split at h
  · rename_i kt id vk y e1 e2
    have hid := hw id (by simp [idsA])
    simp only [ha id hid]
    split at h
    · cases hb : (ktEq _ _ && IntKind.eq _ _) with
      | false => rw [hb] at h; cases h
      | true => rw [hb] at h; simp only [cond_true] at h ⊢; cases h; exact ⟨_, rfl, h0.set hid _⟩
    · cases h
  · cases h
theorem del_loc {t : Nat} {m k : AV} {wr : List Nat} (hw : ∀ id, id ∈ idsA m → id ∈ wr) (ha : ∀ id, id ∈ wr → st2.hp id = st.hp id) (h : delV T t m k st = some (c, x, s)) : ∃ s2, delV T t m k st2 = some (c, x, s2) ∧ Lo wr st st2 s s2 := by
  have h0 := Lo.refl ha
  unfold delV at h ⊢
  split at h
  · rename_i kt id e1
    have hid := hw id (by simp [idsA])
    simp only [ha id hid]
    split at h
    · cases hb : ktEq _ _ with
      | false => rw [hb] at h; cases h
      | true => rw [hb] at h; simp only [cond_true] at h ⊢; cases h; exact ⟨_, rfl, h0.set hid _⟩
    · cases h
  · cases h
theorem lkOf_congr {co : Bool} {m : AV} (h : ∀ id, id ∈ idsA m → st2.hp id = st.hp id) : lkOf st2 co m = lkOf st co m := by
  unfold lkOf
  split
  · rw [h _ (by simp [idsA])]
  · rfl
  · rfl
theorem look_loc {t : Nat} {m k : AV} {co : Bool} (ha : ∀ id, id ∈ idsA m → st2.hp id = st.hp id) (h : lookV T t m k co st = some (c, x, s)) : ∃ s2, lookV T t m k co st2 = some (c, x, s2) ∧ Lo [] st st2 s s2 := by
  unfold lookV at h ⊢
  rw [lkOf_congr ha]
  split at h
  · split at h
    · cases hb : ktEq _ _ with
      | false => rw [hb] at h; cases h
      | true => rw [hb] at h; simp only [cond_true] at h ⊢; cases h; exact ⟨st2, rfl, Lo.refl (by simp)⟩
    · cases h
  · cases h
theorem rangeMap_loc {i t : Nat} {y : AV} {wr : List Nat} (hw : wr = i :: idsA y) (ha : ∀ id, id ∈ wr → st2.hp id = st.hp id) (h : rangeMapV T i t y st = some (c, x, s)) : ∃ s2, rangeMapV T i t y st2 = some (c, x, s2) ∧ Lo wr st st2 s s2 := by
  have h0 := Lo.refl ha
  have hi : i ∈ wr := hw ▸ List.mem_cons_self ..
  unfold rangeMapV at h ⊢
  split at h
  · split at h
    · cases h; exact ⟨_, rfl, h0.set hi _⟩
    · rename_i id
      have hid : id ∈ wr := hw ▸ List.mem_cons_of_mem _ (by simp [idsA])
      simp only [ha id hid]
      split at h
      · cases h; exact ⟨_, rfl, (h0.frz hid).set hi _⟩
      · cases h
    · cases h
  · cases h
theorem entry_loc {y : AV} (ha : ∀ id, id ∈ idsA y → st2.hp id = st.hp id) (h : entryV y st = some (c, x, s)) : ∃ s2, entryV y st2 = some (c, x, s2) ∧ Lo [] st st2 s s2 := by
  unfold entryV at h ⊢
  split at h
  · rename_i id
    simp only [ha id (by simp [idsA])]
    split at h
    · cases h; exact ⟨st2, rfl, Lo.refl (by simp)⟩
    · cases h
  · cases h
theorem ment_loc {i t : Nat} {m k : AV} {wr : List Nat} (hi : i ∈ wr) (hw : ∀ id, id ∈ idsA m → id ∈ wr) (ha : ∀ id, id ∈ wr → st2.hp id = st.hp id) (h : mentV T i t m k st = some (c, x, s)) : ∃ s2, mentV T i t m k st2 = some (c, x, s2) ∧ Lo wr st st2 s s2 := by
  have h0 := Lo.refl ha
  unfold mentV at h ⊢
  split at h
  · rename_i kt id h1
    simp only [ha id (hw id (by simp [idsA]))]
    split at h
    · rename_i kt' f l h2 h3
      cases hb : ktEq kt kt' with
      | false => rw [hb] at h; cases h
      | true => rw [hb] at h; simp only [cond_true] at h ⊢; cases h; exact ⟨_, rfl, h0.set (hw id (by simp [idsA])) _⟩
    · cases h
  · cases h
theorem mest_loc {m k v : AV} {wr : List Nat} (hw : ∀ id, id ∈ idsA m → id ∈ wr) (ha : ∀ id, id ∈ wr → st2.hp id = st.hp id) (h : mestV m k v st = some (c, x, s)) : ∃ s2, mestV m k v st2 = some (c, x, s2) ∧ Lo wr st st2 s s2 := by
  have h0 := Lo.refl ha
  unfold mestV at h ⊢
  split at h
  · rename_i id g vk y h1
    simp only [ha id (hw id (by simp [idsA]))]
    split at h
    · rename_i kt f l g' h2
      cases hb : (Nat.beq g g' && IntKind.eq vk .i64) with
      | false => rw [hb] at h; cases h
      | true => rw [hb] at h; simp only [cond_true] at h ⊢; cases h; exact ⟨_, rfl, h0.set (hw id (by simp [idsA])) _⟩
    · cases h
  · cases h
theorem sliceArr_loc {t : Nat} {y : AV} (ha : ∀ id, id ∈ idsA y → st2.hp id = st.hp id) (h : sliceArrV T t y st = some (c, x, s)) : ∃ s2, sliceArrV T t y st2 = some (c, x, s2) ∧ Lo [] st st2 s s2 := by
  have hall : ∀ s, ∀ {r : Option (Prop × AV)}, (r.map fun p => (p.1, p.2, st)) = some (c, x, s) → ∃ s2, (r.map fun p => (p.1, p.2, st2)) = some (c, x, s2) ∧ Lo [] st st2 s s2 := by
    intro s r hr
    simp only [Option.map_eq_some_iff] at hr ⊢
    obtain ⟨p, h1, h2⟩ := hr
    cases h2
    exact ⟨st2, ⟨p, h1, rfl⟩, Lo.refl (by simp)⟩
  unfold sliceArrV at h ⊢
  split at h
  · split at h
    · split at h
      · cases hb : Nat.beq _ 1 with
        | false => rw [hb] at h; cases h
        | true =>
          rw [hb] at h
          simp only [cond_true] at h ⊢
          split at h
          · rename_i id k i
            simp only [ha id (by simp [idsA])]
            split at h
            · cases hb2 : Nat.beq k _ with
              | false => rw [hb2] at h; cases h
              | true =>
                rw [hb2] at h
                simp only [cond_true] at h ⊢
                cases hb3 : Nat.beq k 1 with
                | true =>
                  rw [hb3] at h
                  simp only [cond_true] at h ⊢
                  cases hb4 : Nat.ble _ 65536 with
                  | false => rw [hb4] at h; cases h
                  | true => rw [hb4] at h; simp only [cond_true] at h ⊢; cases h; exact ⟨st2, rfl, Lo.refl (by simp)⟩
                | false =>
                  rw [hb3] at h
                  simp only [cond_false] at h ⊢
                  cases hb4 : Nat.beq k _ with
                  | false => rw [hb4] at h; cases h
                  | true => rw [hb4] at h; simp only [cond_true] at h ⊢; cases h; exact ⟨st2, rfl, Lo.refl (by simp)⟩
            · cases h
          · cases h
      · cases h
    · cases h
  · cases h
theorem sliceHi_loc {t : Nat} {y : AV} {hi : Int} (ha : ∀ id, id ∈ idsA y → st2.hp id = st.hp id) (h : sliceHiV T t y hi st = some (c, x, s)) : ∃ s2, sliceHiV T t y hi st2 = some (c, x, s2) ∧ Lo [] st st2 s s2 := by
  unfold sliceHiV at h ⊢
  split at h
  · split at h
    · split at h
      · cases hb : Nat.beq _ 1 with
        | false => rw [hb] at h; cases h
        | true =>
          rw [hb] at h
          simp only [cond_true] at h ⊢
          split at h
          · rename_i id k i
            simp only [ha id (by simp [idsA])]
            split at h
            · cases hb2 : (Nat.beq k _ && Nat.beq k 1 && Nat.ble _ 65536) with
              | false => rw [hb2] at h; cases h
              | true =>
                rw [hb2] at h
                simp only [cond_true] at h ⊢
                cases h; exact ⟨st2, rfl, Lo.refl (by simp)⟩
            · cases h
          · cases h
      · cases h
    · cases h
  · cases h
theorem copy_loc {t : Nat} {y z : AV} {wr : List Nat} (hw : wr = [y, z].flatMap idsA) (ha : ∀ id, id ∈ wr → st2.hp id = st.hp id) (h : copyV T t y z st = some (c, x, s)) : ∃ s2, copyV T t y z st2 = some (c, x, s2) ∧ Lo wr st st2 s s2 := by
  have h0 := Lo.refl ha
  have hy : ∀ id, id ∈ idsA y → id ∈ wr := fun id hid => by rw [hw]; simp [hid]
  have hz : ∀ id, id ∈ idsA z → id ∈ wr := fun id hid => by rw [hw]; simp [hid]
  have sz : ∀ k, srcV st2 k z = srcV st k z := fun k => src_congr fun id hid => ha id (hz id hid)
  unfold copyV at h ⊢
  split at h
  · split at h
    · split at h
      · simp only [sz] at h ⊢
        split at h
        · split at h
          · rename_i id k off n
            have hid := hy id (by simp [idsA])
            simp only [ha id hid]
            split at h
            · cases hb3 : (Nat.beq _ _ && Nat.beq _ _ && Nat.blt _ _) with
              | false => rw [hb3] at h; cases h
              | true => rw [hb3] at h; simp only [cond_true] at h ⊢; cases h; exact ⟨_, rfl, h0.set hid _⟩
            · cases h
          · cases h
        · cases h
      · cases h
    · cases h
  · cases h
theorem slice3_loc {t : Nat} {y : AV} {hi mx : Option Int} {wr : List Nat} (hw : wr = idsA y) (ha : ∀ id, id ∈ wr → st2.hp id = st.hp id) (h : slice3V T t y hi mx st = some (c, x, s)) : ∃ s2, slice3V T t y hi mx st2 = some (c, x, s2) ∧ Lo wr st st2 s s2 := by
  have h0 := Lo.refl ha
  unfold slice3V at h ⊢
  split at h
  · split at h
    · split at h
      · split at h
        · rename_i id k off n
          have hid : id ∈ wr := hw ▸ (by simp [idsA])
          simp only [ha id hid]
          split at h
          · cases hb3 : (Nat.beq _ _ && Nat.beq _ _) with
            | false => rw [hb3] at h; cases h
            | true => rw [hb3] at h; simp only [cond_true] at h ⊢; cases h; exact ⟨_, rfl, h0.frz hid⟩
          · cases h
        · cases h
      · cases h
    · cases h
  · cases h
theorem load_loc {ti : TI} {y : AV} (ha : ∀ id, id ∈ idsA y → st2.hp id = st.hp id) : loadV ti st2.hp y = loadV ti st.hp y := by
  unfold loadV
  split
  · rw [ha _ (by simp [idsA])]
  · rw [ha _ (by simp [idsA])]
  · rfl
  · rfl
theorem call_loc {i : Nat} {f : AV} {l : List AV} {r : CR} (ha : ∀ id, id ∈ (callFp st.hp i f l r).1 ++ (callFp st.hp i f l r).2 → st2.hp id = st.hp id)
    (h : callV P i f l r st = some (c, x, s)) : ∃ s2, callV P i f l r st2 = some (c, x, s2) ∧ Lo (callFp st.hp i f l r).2 st st2 s s2 := by
  have h0 : Lo (callFp st.hp i f l r).2 st st2 st st2 := Lo.refl fun id hid => ha id (List.mem_append_right _ hid)
  cases r with
  | dv r =>
    simp only [callV, callFp] at h ha h0 ⊢
    split at h
    · rename_i g l' hg
      rw [hg] at ha h0 ⊢
      simp only at ha h0 ⊢
      have hv : ∀ id, id ∈ visL st.hp l' → st2.hp id = st.hp id := by
        intro id hid
        refine ha id ?_
        cases r.flat <;> simp [hid]
      cases h
      refine ⟨_, by rw [okDVs_congr _ hv, toDVs_congr _ hv, reachs_congr _ hv], ?_⟩
      cases hfl : r.flat with
      | true => rw [hfl] at h0; exact h0
      | false =>
        rw [hfl] at h0
        exact Lo.frzs _ h0 fun j hj => reachs_vis hj
    · cases h
  | ip x' y =>
    simp only [callV, callFp] at h ha h0 ⊢
    unfold ipV at h ⊢
    split at h
    · rename_i gf f1 f2 id k off n l'
      have hid : id ∈ visL st.hp (AV.ms id k off n :: l') := visL_mem (List.mem_cons_self ..) (by simp [vis, fuel])
      have hv : ∀ j, j ∈ visL st.hp l' → st2.hp j = st.hp j := fun j hj => ha j (by
        simp only [List.nil_append]
        obtain ⟨z, h1, h2⟩ := List.mem_flatMap.1 hj
        exact visL_mem (List.mem_cons_of_mem _ h1) h2)
      simp only [ha id (by simpa using hid)]
      split at h
      · rename_i U k' m x0 hst
        cases hb : Nat.beq k' k with
        | false => rw [hb] at h; cases h
        | true =>
          rw [hb] at h
          simp only [cond_true] at h ⊢
          cases h
          refine ⟨_, by rw [okDVs_congr _ hv, toDVs_congr _ hv, reachs_congr _ hv], h0.set hid _⟩
      · cases h
    · cases h
  | nw R y =>
    simp only [callV, callFp] at h ha h0 ⊢
    split at h
    · rename_i g l' hg
      rw [hg] at ha h0 ⊢
      simp only at ha h0 ⊢
      have hv : ∀ id, id ∈ visL st.hp l' → st2.hp id = st.hp id := fun id hid => ha id (by simp [hid])
      cases h
      refine ⟨_, by rw [okDVs_congr _ hv, toDVs_congr _ hv, reachs_congr _ hv], ?_⟩
      exact (Lo.frzs _ h0 fun j hj => List.mem_cons_of_mem _ (reachs_vis hj)).set (List.mem_cons_self ..) _
    · cases h
  | ln r =>
    simp only [callV, callFp] at h ha h0 ⊢
    split at h
    · rename_i g l' hg
      rw [hg] at ha h0 ⊢
      simp only at ha h0 ⊢
      have hv : ∀ id, id ∈ visL st.hp l' → st2.hp id = st.hp id := fun id hid => ha id (by simp [hid])
      have hall : (reachs st2 l').all (isMp st2) = (reachs st l').all (isMp st) := by
        rw [reachs_congr _ hv, Bool.eq_iff_iff, List.all_eq_true, List.all_eq_true]
        have e : ∀ id, id ∈ reachs st l' → isMp st2 id = isMp st id := fun id hid => by unfold isMp; rw [hv id (reachs_vis hid)]
        exact ⟨fun h id hid => by rw [← e id hid]; exact h id hid, fun h id hid => by rw [e id hid]; exact h id hid⟩
      rw [hall]
      revert h
      cases (reachs st l').all (isMp st) with
      | false => intro h; cases h
      | true =>
      simp only [cond_true]
      intro h
      cases h
      exact ⟨_, by rw [okDVs_congr _ hv, toDVs_congr _ hv], h0⟩
    · cases h
end
end Go.Px
end

/-! PxV -/
noncomputable section
namespace Go.Px
open Go Go.RowKit
section
variable {P : Program} {T : Nat → Option TI}
theorem partsV_congr {ti : TI} {ev ev2 : Operand → AV} : ∀ (l : List (Nat × Operand)), (∀ p, p ∈ l → ev2 p.2 = ev p.2) → partsV T ti ev2 l = partsV T ti ev l
  | [], _ => rfl
  | (i, y) :: l, h => by
    have h1 : ev2 y = ev y := h (i, y) (List.mem_cons_self ..)
    simp only [partsV, h1, partsV_congr l fun p hp => h p (List.mem_cons_of_mem _ hp)]
theorem optI_congr {ev ev2 : Operand → AV} {x : Option Operand} (h : ∀ y, x = some y → ev2 y = ev y) : optI ev2 x = optI ev x := by
  cases x with
  | none => rfl
  | some y => simp only [optI, h y rfl]
theorem builtin_congr {b : Builtin} {args : List Operand} {ts : List Nat} {ev ev2 : Operand → AV} (h : ∀ y, y ∈ args → ev2 y = ev y) : builtinV T b args ts ev2 = builtinV T b args ts ev := by
  have hm : ∀ r : List Operand, (∀ y, y ∈ r → y ∈ args) → r.map ev2 = r.map ev := fun r hr => List.map_congr_left fun y hy => h y (hr y hy)
  cases b <;> first | rfl | skip
  · simp only [builtinV]
    split
    · rename_i x t
      rw [h x (List.mem_cons_self ..)]
    · rfl
  · simp only [builtinV]
    split
    · rename_i x r
      rw [h x (List.mem_cons_self ..), hm r fun y hy => List.mem_cons_of_mem _ hy]
    · rfl
  · simp only [builtinV]
    split
    · rename_i x r
      rw [h x (List.mem_cons_self ..), hm r fun y hy => List.mem_cons_of_mem _ hy]
    · rfl
theorem pure_congr {ev ev2 : Operand → AV} (op : Op) (h0 : ∀ v, ev2 (.const v) = ev (.const v)) (h : ∀ y, y ∈ op.operands → ev2 y = ev y) : pureV T op ev2 = pureV T op ev := by
  cases op <;> first | rfl | skip
  case move x => simp only [pureV, h x (by simp [Op.operands])]
  case assign x => simp only [pureV, h x (by simp [Op.operands])]
  case pick c a b => simp only [pureV, h a (by simp [Op.operands]), h b (by simp [Op.operands]), h c (by simp [Op.operands])]
  case build t parts =>
    simp only [pureV]
    split
    · rw [partsV_congr parts.toList fun p hp => h p.2 (by simp only [Op.operands, List.mem_toArray]; exact List.mem_map.2 ⟨p, hp, rfl⟩)]
    · rfl
  case nilCheck x => simp only [pureV, h x (by simp [Op.operands])]
  case binOp op t x y t' => simp only [pureV, h x (by simp [Op.operands]), h y (by simp [Op.operands])]
  case unOp op t x => simp only [pureV, h x (by simp [Op.operands])]
  case convert s t x => simp only [pureV, h x (by simp [Op.operands])]
  case makeFunc f fs cs =>
    cases f <;> first | rfl | skip
    simp only [pureV, Option.some.injEq, Prod.mk.injEq, true_and, AV.fn.injEq]
    refine ⟨funext fun j => ?_, funext fun j => ?_⟩
    · by_cases hj : j < fs.size
      · rw [Array.getD_eq_getD_getElem?, Array.getElem?_eq_getElem hj]
        exact h _ (by simp [Op.operands])
      · rw [Array.getD_eq_getD_getElem?, Array.getElem?_eq_none (by omega)]
        exact h0 _
    · by_cases hj : j < cs.size
      · rw [Array.getD_eq_getD_getElem?, Array.getElem?_eq_getElem hj]
        exact h _ (by simp [Op.operands])
      · rw [Array.getD_eq_getD_getElem?, Array.getElem?_eq_none (by omega)]
        exact h0 _
  case slice t x lo hi mx =>
    simp only [pureV, h x (by simp [Op.operands])]
    rw [optI_congr (x := lo) fun y e => h y (by simp [Op.operands, e]), optI_congr (x := hi) fun y e => h y (by simp [Op.operands, e]), optI_congr (x := mx) fun y e => h y (by simp [Op.operands, e])]
  case fieldAddr s x i => simp only [pureV, h x (by simp [Op.operands])]
  case field s x i => simp only [pureV, h x (by simp [Op.operands])]
  case indexAddr t x i => simp only [pureV, h x (by simp [Op.operands]), h i (by simp [Op.operands])]
  case index t x i => simp only [pureV, h x (by simp [Op.operands]), h i (by simp [Op.operands])]
  case extract x i => simp only [pureV, h x (by simp [Op.operands])]
  case call c =>
    simp only [pureV]
    split
    · rw [builtin_congr fun y hy => h y (by simp only [Op.operands, Call.operands]; exact Array.mem_append.2 (.inr (Array.mem_toList_iff.1 hy)))]
    · rfl
variable {st st2 : St}
theorem step_local {o : Oper} {i : Nat} {r : CR} {c : Prop} {x : AV} {s : St} (h : stepV P T i o.op o.type st r = some (c, x, s)) (he : ∀ y, y ∈ o.op.operands → st2.ev y = st.ev y)
    (ha : ∀ id, id ∈ (fpV o i st r).1 ++ (fpV o i st r).2 → st2.hp id = st.hp id) : ∃ s2, stepV P T i o.op o.type st2 r = some (c, x, s2) ∧ Lo (fpV o i st r).2 st st2 s s2 := by
  have hp : ∀ {op : Op} {c x s}, (∀ y, y ∈ op.operands → st2.ev y = st.ev y) → (pureV T op st.ev).map (fun p => (p.1, p.2, st)) = some (c, x, s) → ∃ s2, (pureV T op st2.ev).map (fun p => (p.1, p.2, st2)) = some (c, x, s2) ∧ Lo [] st st2 s s2 := by
    intro op c x s he h
    rw [pure_congr (ev := st.ev) (ev2 := st2.ev) op (fun _ => rfl) he]
    simp only [Option.map_eq_some_iff] at h ⊢
    obtain ⟨⟨c', x'⟩, h1, h2⟩ := h
    cases h2
    exact ⟨st2, ⟨_, h1, rfl⟩, Lo.refl (by simp)⟩
  have hargs : ∀ {cl : Call}, (∀ y, y ∈ (Op.call cl).operands → st2.ev y = st.ev y) → cl.args.toList.map st2.ev = cl.args.toList.map st.ev := fun {cl} he => List.map_congr_left fun y hy => he y (by
    simp only [Op.operands, Call.operands]; exact Array.mem_append.2 (.inr (Array.mem_toList_iff.1 hy)))
  obtain ⟨dst, op, ty, pos, aft, gd⟩ := o
  simp only at h he ha ⊢
  unfold stepV at h ⊢
  unfold fpV at ha ⊢
  split at h
  · rename_i t y
    have hy := he y (by simp [Op.operands])
    simp only [List.append_nil] at ha
    simp only [hy]
    split at h
    · rw [load_loc ha]
      simp only [Option.map_eq_some_iff] at h ⊢
      obtain ⟨⟨c', x'⟩, h1, h2⟩ := h
      cases h2
      exact ⟨st2, ⟨_, h1, rfl⟩, Lo.refl (by simp)⟩
    · cases h
  · exact alloc_loc (by simp) (fun id hid => ha id (by simpa using hid)) h
  · rename_i t y
    have hy := he y (by simp [Op.operands])
    simp only [hy]
    exact box_loc (by simp) (fun id hid => ha id (by simpa using hid)) h
  · rename_i t len parts
    exact buildSlice_loc (fun p hp => he p.2 (by simp only [Op.operands, List.mem_toArray]; exact List.mem_map.2 ⟨p, hp, rfl⟩)) rfl (fun id hid => ha id (by simpa using hid)) h
  · rename_i t l k
    have hl := he l (by simp [Op.operands])
    have hk := he k (by simp [Op.operands])
    simp only [hl, hk]
    exact makeSlice_loc (by simp) (fun id hid => ha id (by simpa using hid)) h
  · rename_i t ad y
    have had := he ad (by simp [Op.operands])
    have hy := he y (by simp [Op.operands])
    simp only [had, hy, Option.map_eq_some_iff] at h ⊢
    obtain ⟨⟨c', s'⟩, h1, h2⟩ := h
    cases h2
    obtain ⟨s2, h3, h4⟩ := store_loc rfl (fun id hid => ha id (by simpa using hid)) h1
    exact ⟨s2, ⟨_, h3, rfl⟩, h4⟩
  · exact nil_loc (by simp) (fun id hid => ha id (by simpa using hid)) h
  · rename_i t y hi mx
    have hy := he y (by simp [Op.operands])
    have hh : optI st2.ev hi = optI st.ev hi := optI_congr fun z e => he z (by simp [Op.operands, e])
    have hm : optI st2.ev (some mx) = optI st.ev (some mx) := optI_congr fun z e => he z (by cases e; simp [Op.operands])
    simp only [hy, hh, hm]
    split at h
    · rename_i id k off n ey
      split at h
      · exact slice3_loc rfl (fun id hid => ha id (by simpa using hid)) h
      · cases h
    · rename_i hne
      obtain ⟨s2, h1, h2⟩ := hp he h
      refine ⟨s2, h1, ?_⟩
      obtain ⟨t1, t2⟩ : s = st ∧ s2 = st2 := by
        simp only [Option.map_eq_some_iff] at h h1
        obtain ⟨_, _, e⟩ := h
        obtain ⟨_, _, e'⟩ := h1
        simp only [Prod.mk.injEq] at e e'
        exact ⟨e.2.2.symm, e'.2.2.symm⟩
      subst t1 t2
      exact Lo.refl fun id hid => ha id (by simpa using hid)
  · rename_i t y
    have hy := he y (by simp [Op.operands])
    simp only [hy]
    split at h
    · rename_i id k j q ey
      exact sliceArr_loc (fun id hid => ha id (by
        simp only [ey]
        simpa using hid)) h
    · rename_i hne
      obtain ⟨s2, h1, h2⟩ := hp he h
      exact ⟨s2, h1, h2⟩
  · rename_i t y hi
    have hy := he y (by simp [Op.operands])
    have hh : optI st2.ev (some hi) = optI st.ev (some hi) := optI_congr fun z e => he z (by cases e; simp [Op.operands])
    simp only [hy, hh]
    split at h
    · rename_i id k j q ey
      split at h
      · exact sliceHi_loc (fun id hid => ha id (by
          simp only [ey]
          simpa using hid)) h
      · cases h
    · rename_i hne
      obtain ⟨s2, h1, h2⟩ := hp he h
      exact ⟨s2, h1, h2⟩
  · exact makeMap_loc (by simp) (fun id hid => ha id (by simpa using hid)) h
  · rename_i t m k v
    rw [he m (by simp [Op.operands]), he k (by simp [Op.operands]), he v (by simp [Op.operands])]
    exact upd_loc (fun _ hid => hid) (fun id hid => ha id (by simpa using hid)) h
  · rename_i t m k v
    rw [he m (by simp [Op.operands]), he k (by simp [Op.operands]), he v (by simp [Op.operands])]
    exact upd_loc (fun _ hid => hid) (fun id hid => ha id (by simpa using hid)) h
  · rename_i t m k co
    rw [he m (by simp [Op.operands]), he k (by simp [Op.operands])]
    exact look_loc (fun id hid => ha id (by simpa using hid)) h
  · rename_i t y
    rw [he y (by simp [Op.operands])]
    exact rangeMap_loc rfl (fun id hid => ha id (by simpa using hid)) h
  · rename_i y
    rw [he y (by simp [Op.operands])]
    exact entry_loc (fun id hid => ha id (by simpa using hid)) h
  · rename_i t m k
    have hm := he m (by simp [Op.operands])
    have hk := he k (by simp [Op.operands])
    simp only [hm, hk]
    exact ment_loc (by simp) (fun id hid => by simp [hid]) (fun id hid => ha id (by simpa using hid)) h
  · rename_i t m s0 v
    have hm := he m (by simp [Op.operands])
    have hs := he s0 (by simp [Op.operands])
    have hx := he v (by simp [Op.operands])
    simp only [hm, hs, hx]
    exact mest_loc (fun id hid => by simp [hid]) (fun id hid => ha id (by simpa using hid)) h
  · rename_i cl
    obtain ⟨callee, cargs, ctys⟩ := cl
    have hl := hargs he
    simp only at h ha hl ⊢
    split at h
    · split at h
      · rename_i s0 y t u e1 e2
        simp only [e1, List.map_cons, List.map_nil, List.cons.injEq, and_true] at hl ha ⊢
        simp only [hl.1, hl.2]
        cases hb : Nat.beq t u with
        | false => rw [hb] at h; cases h
        | true =>
          rw [hb] at h
          simp only [cond_true] at h ⊢
          exact append_loc rfl (fun id hid => ha id (by simpa using hid)) h
      · cases h
    · split at h
      · rename_i s0 y t u e1 e2
        simp only [e1, List.map_cons, List.map_nil, List.cons.injEq, and_true] at hl ha ⊢
        simp only [hl.1, hl.2]
        cases hb : Nat.beq t u with
        | false => rw [hb] at h; cases h
        | true =>
          rw [hb] at h
          simp only [cond_true] at h ⊢
          exact copy_loc rfl (fun id hid => ha id (by simpa using hid)) h
      · cases h
    · split at h
      · rename_i y t e1 e2
        simp only [e1, List.map_cons, List.map_nil, List.cons.injEq, and_true] at hl ha ⊢
        simp only [hl]
        exact clear_loc rfl (fun id hid => ha id (by simpa using hid)) h
      · cases h
    · split at h
      · rename_i m k t u e1 e2
        simp only [e1, List.map_cons, List.map_nil, List.cons.injEq, and_true] at hl ha ⊢
        simp only [hl.1, hl.2]
        refine del_loc (fun id hid => ?_) (fun id hid => ha id (by simpa using hid)) h
        simp [hid]
      · cases h
    · rename_i f
      have hf : st2.ev f = st.ev f := he f (by simp [Op.operands, Call.operands])
      simp only [hf, hl]
      exact call_loc ha h
    · obtain ⟨s2, h1, h2⟩ := hp he h
      refine ⟨s2, h1, ?_⟩
      split <;> first | exact h2 | skip
      all_goals simp_all
  · obtain ⟨s2, h1, h2⟩ := hp he h
    refine ⟨s2, h1, ?_⟩
    split <;> first | exact h2 | skip
    all_goals simp_all
theorem fp_local {o : Oper} {i : Nat} {r : CR} (he : ∀ y, y ∈ o.op.operands → st2.ev y = st.ev y)
    (ha : ∀ id, id ∈ (fpV o i st r).1 ++ (fpV o i st r).2 → st2.hp id = st.hp id) : fpV o i st2 r = fpV o i st r := by
  have hargs : ∀ {cl : Call}, (∀ y, y ∈ (Op.call cl).operands → st2.ev y = st.ev y) → cl.args.toList.map st2.ev = cl.args.toList.map st.ev := fun {cl} he => List.map_congr_left fun y hy => he y (by
    simp only [Op.operands, Call.operands]; exact Array.mem_append.2 (.inr (Array.mem_toList_iff.1 hy)))
  obtain ⟨dst, op, ty, pos, aft, gd⟩ := o
  simp only at he
  unfold fpV at ha ⊢
  simp only at ha ⊢
  split
  · rename_i t y
    rw [he y (by simp [Op.operands])]
  · rfl
  · rfl
  · rfl
  · rename_i t len parts
    have hm : (parts.toList.map fun p => st2.ev p.2) = parts.toList.map fun p => st.ev p.2 := List.map_congr_left fun p hp => he p.2 (by simp only [Op.operands, List.mem_toArray]; exact List.mem_map.2 ⟨p, hp, rfl⟩)
    rw [hm, visL_congr _ fun id hid => ha id (by simp [hid])]
  · rename_i t ad y
    rw [he ad (by simp [Op.operands]), he y (by simp [Op.operands]), visL_congr _ fun id hid => ha id (by simp only [List.nil_append, List.mem_append]; exact .inr hid)]
  · rfl
  · rename_i t y hi mx
    rw [he y (by simp [Op.operands])]
  · rename_i t y
    rw [he y (by simp [Op.operands])]
  · rename_i t y hi
    rw [he y (by simp [Op.operands])]
  · rfl
  · rename_i t m k v
    rw [he m (by simp [Op.operands])]
  · rename_i t m k v
    rw [he m (by simp [Op.operands])]
  · rename_i t m k co
    rw [he m (by simp [Op.operands])]
  · rename_i t y
    rw [he y (by simp [Op.operands])]
  · rename_i y
    rw [he y (by simp [Op.operands])]
  · rename_i t m k
    rw [he m (by simp [Op.operands])]
  · rename_i t m s v
    rw [he m (by simp [Op.operands]), he s (by simp [Op.operands])]
  · rename_i cl
    have hl := hargs he
    split
    · rw [hl]
    · rw [hl]
    · rw [hl]
    · rw [hl]
    · rename_i f hc
      have hf : st2.ev f = st.ev f := he f (by simp [Op.operands, Call.operands, hc])
      rw [hf, hl]
      have hv : ∀ id, id ∈ (callFp st.hp i (st.ev f) (cl.args.toList.map st.ev) r).1 ++ (callFp st.hp i (st.ev f) (cl.args.toList.map st.ev) r).2 → st2.hp id = st.hp id := by
        intro id hid
        refine ha id ?_
        simp only [hc]
        exact hid
      clear ha
      cases r with
      | dv r =>
        simp only [callFp] at hv ⊢
        split
        · rename_i g l e
          rw [e] at hv
          rw [visL_congr _ fun id hid => hv id (by cases r.flat <;> simp [hid])]
        · rfl
      | ip x' y =>
        simp only [callFp] at hv ⊢
        rw [visL_congr _ fun id hid => hv id (by simp [hid])]
      | nw R y =>
        simp only [callFp] at hv ⊢
        split
        · rename_i g l e
          rw [e] at hv
          rw [visL_congr _ fun id hid => hv id (by simp [hid])]
        · rfl
      | ln r =>
        simp only [callFp] at hv ⊢
        split
        · rename_i g l e
          rw [e] at hv
          rw [visL_congr _ fun id hid => hv id (by simp [hid])]
        · rfl
    · rfl
  · rfl
end
end Go.Px
end
