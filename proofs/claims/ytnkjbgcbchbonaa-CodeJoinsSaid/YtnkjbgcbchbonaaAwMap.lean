/- A layer of abstract values over the model's machine: own work for this claim, part AwMap. -/
import Derived.Test.YtnkjbgcbchbonaaAwMut
import Derived.MapKept
set_option linter.unusedSimpArgs false
set_option linter.unusedVariables false
namespace Go.AW
open Go Go.RowKit

variable {P : Program} {n : Nat} {ds : List Deferred} {Q : AQ} {s : Fr} {σ : AS}

/-! ## maps whose keys are texts -/

def skvs (kvs : List (ByteArray × AV)) : List (AV × AV) := kvs.map fun p => (.sc (.string p.1), p.2)
def findS (k : ByteArray) : List (ByteArray × AV) → Option AV
  | [] => none
  | (k', v) :: r => if k = k' then some v else findS k r
def updS (k : ByteArray) (v : AV) : List (ByteArray × AV) → List (ByteArray × AV)
  | [] => [(k, v)]
  | (k', v') :: r => if k = k' then (k, v) :: r else (k', v') :: updS k v r

theorem bs_self (k : ByteArray) : (k == k) = true := (MapKept.bytes_beq k k).2 rfl
theorem bs_ne {a b : ByteArray} (h : a ≠ b) : (a == b) = false := Bool.eq_false_iff.2 fun e => h ((MapKept.bytes_beq a b).1 e)

theorem findNow_str (k : ByteArray) (v : AV) : ∀ (kvs : List (ByteArray × AV)) (ms : List MapEntry) (i : Nat), ms.length = kvs.length → (∀ (j : Nat) (m : MapEntry), ms[j]? = some m → ∃ p : ByteArray × AV, kvs[j]? = some p ∧ m.key = .string p.1) →
    (findS k kvs = none ∧ Instr.findNow .string (.string k) ms i = some none ∧ updS k v kvs = kvs ++ [(k, v)]) ∨
    (∃ (j : Nat) (p : ByteArray × AV) (m : MapEntry), kvs[j]? = some p ∧ ms[j]? = some m ∧ p.1 = k ∧ findS k kvs = some p.2 ∧ Instr.findNow .string (.string k) ms i = some (some (i + j, m.val)) ∧ updS k v kvs = kvs.set j (k, v)) := by
  intro kvs
  induction kvs with
  | nil =>
    intro ms i hl _
    have : ms = [] := List.length_eq_zero_iff.1 (by simpa using hl)
    subst this
    exact .inl ⟨rfl, rfl, rfl⟩
  | cons p r ih =>
    intro ms i hl hk
    cases ms with
    | nil => simp at hl
    | cons m ms =>
      obtain ⟨p', hp', hkey⟩ := hk 0 m rfl
      obtain rfl : p = p' := by simpa using hp'
      by_cases he : k = p.1
      · right
        refine ⟨0, p, m, rfl, rfl, he.symm, by simp [findS, he], ?_, by simp [updS, he]⟩
        simp [Instr.findNow, hkey, Instr.sameNow, he, bs_self]
      · rcases ih ms (i + 1) (by simpa using hl) (fun j m' hm => hk (j + 1) m' (by simpa using hm)) with ⟨h1, h2, h3⟩ | ⟨j, q, m', h1, h2, h3, h4, h5, h6⟩
        · left
          refine ⟨by simp [findS, he, h1], ?_, by simp [updS, he, h3]⟩
          have : (k == p.1) = false := bs_ne he
          simp [Instr.findNow, hkey, Instr.sameNow, this, h2]
        · right
          refine ⟨j + 1, q, m', by simpa using h1, by simpa using h2, h3, by simp [findS, he, h4], ?_, by simp [updS, he, h6]⟩
          have : (k == p.1) = false := bs_ne he
          simp [Instr.findNow, hkey, Instr.sameNow, this, h5]
          omega

theorem run_checkKey_str {t : TypeId} {w : World} {b : Bool} {k : ByteArray} (ht : P.underlying t = some .string) : (Instr.checkKey b 10000 t (.string k)).run P w = .ok () w := by
  have : ∀ m : Nat, (Instr.checkKey b (m + 1) t (.string k)).run P w = .ok () w := fun m => by
    simp [Instr.checkKey, run_underlying ht, Sem.run_bind, Result.andThen]
  exact this 9999

theorem run_findKey_str {t : TypeId} {w : World} {k : ByteArray} {ms : List MapEntry} {r : Option (Nat × Value)} (ht : P.underlying t = some .string) (h : Instr.findNow .string (.string k) ms 0 = some r) :
    (Instr.findKey t (.string k) ms).run P w = .ok r w := by
  simp [Instr.findKey, run_underlying ht, Sem.run_bind, Result.andThen, h]

theorem map_read {G : Gh} {w : World} {id : Nat} {kvs : List (ByteArray × AV)} (hi : Inv P G σ w) (hσ : σ id = some (.map (skvs kvs))) :
    ∃ (b : Nat) (ms : Array MapEntry) (clock : Nat), G.inj id = some b ∧ w.heap[b]? = some (.map ms clock) ∧ (ms.size = kvs.length ∧ StampB ms clock) ∧ (∀ (j : Nat) (m : MapEntry), ms.toList[j]? = some m → ∃ p : ByteArray × AV, kvs[j]? = some p ∧ m.key = .string p.1 ∧ Rep P G p.2 m.val) := by
  obtain ⟨b, ms, clock, h1, h2, ⟨h3, hst⟩, h4⟩ := hi.maps id _ hσ
  have hlen : (skvs kvs).length = kvs.length := by simp [skvs]
  refine ⟨b, ms, clock, h1, h2, ⟨by omega, hst⟩, fun j m hm => ?_⟩
  have hj : j < kvs.length := by
    have := (List.getElem?_eq_some_iff.1 hm).1
    simp at this; omega
  obtain ⟨m', g1, g2, g3⟩ := h4 j (by omega)
  rw [Array.getElem?_toList, g1] at hm
  obtain rfl := Option.some.inj hm
  refine ⟨kvs[j], List.getElem?_eq_getElem hj, ?_, ?_⟩
  · have e : ((skvs kvs).getD j (.any, .any)).1 = .sc (.string kvs[j].1) := by simp [skvs, hj]
    rw [e] at g2
    generalize m'.key = x at g2
    cases g2; rfl
  · have e : ((skvs kvs).getD j (.any, .any)).2 = kvs[j].2 := by simp [skvs, hj]
    rwa [e] at g3

def lookV (P : Program) (et : TypeId) (r : Option AV) (ok : Bool) : AV := if ok then .tup [r.getD (zeroAV P et), .sc (.bool r.isSome)] else r.getD (zeroAV P et)

theorem lookup_out {G : Gh} {w : World} {K Pn : AV → AS → Prop} (hi : Inv P G σ w) {t kt et : TypeId} {x ix : Value} {ok : Bool} {id : Nat} {k : ByteArray} {kvs : List (ByteArray × AV)}
    (hm : P.underlying t = some (.map kt et)) (hk : P.underlying kt = some .string) (hz : (zeroAV P et).laid = true) (hx : Rep P G (.mp id) x) (hix : Rep P G (.sc (.string k)) ix) (hσ : σ id = some (.map (skvs kvs)))
    (h : K (lookV P et (findS k kvs) ok) σ) : Out P G K Pn (((do pure (Next.value (← Instr.lookup t x ix ok))) : Sem Next).run P w) := by
  obtain ⟨b, ms, clock, h1, h2, ⟨h3, hst⟩, h4⟩ := map_read hi hσ
  cases hix
  cases hx with
  | mp hb =>
    rw [h1] at hb
    obtain rfl := Option.some.inj hb
    obtain ⟨it, z, hit, hzv, hzr⟩ := zeroAV_info hz
    have tupR : ∀ (a : AV) (v : Value) (bb : Bool), Rep P G a v → Rep P G (.tup [a, .sc (.bool bb)]) (.tuple #[v, .bool bb]) := by
      intro a v bb ha
      refine .tup [v, .bool bb] rfl fun i hi => ?_
      match i, hi with
      | 0, _ => exact ha
      | 1, _ => exact .sc _
    rcases findNow_str k .any kvs ms.toList 0 (by simpa using h3) (fun j m hm => let ⟨p, a, b, _⟩ := h4 j m hm; ⟨p, a, b⟩) with ⟨g1, g2, _⟩ | ⟨j, p, m, g1, g2, g3, g4, g5, _⟩
    · have hrun : (Instr.lookup t (.map (some b)) (.string k) ok).run P w = .ok (if ok then .tuple #[z, .bool false] else z) w := by
        simp only [Instr.lookup, Sem.run_bind, run_underlying hm, Result.andThen_ok, MapKept.run_getObj_map h2, Sem.run_pure, run_checkKey_str hk, run_findKey_str hk g2, zeroValue, run_typeInfo w hit, hzv]
      refine Out.value hrun (.refl G) hi ?_ h
      rw [g1]
      unfold lookV
      cases ok
      · rw [Option.getD_none, hzr]; exact rep_ofC z
      · exact tupR _ _ _ (by rw [Option.getD_none, hzr]; exact rep_ofC z)
    · have hrun : (Instr.lookup t (.map (some b)) (.string k) ok).run P w = .ok (if ok then .tuple #[m.val, .bool true] else m.val) w := by
        simp only [Instr.lookup, Sem.run_bind, run_underlying hm, Result.andThen_ok, MapKept.run_getObj_map h2, Sem.run_pure, run_checkKey_str hk, run_findKey_str hk g5]
      refine Out.value hrun (.refl G) hi ?_ h
      obtain ⟨p', q1, _, q3⟩ := h4 j m g2
      rw [g1] at q1
      obtain rfl := Option.some.inj q1
      rw [g4]
      unfold lookV
      cases ok
      · exact q3
      · exact tupR _ _ _ q3

theorem SOp.lookup {d t kt et : Nat} {x ix : Operand} {ok : Bool} {ty : TypeId} {pos : String} {af : Array Edge} {g : Option (Nat × Bool)} {K : Fr → AS → Prop} (hd : d < n) (id : Nat) (k : ByteArray) (kvs : List (ByteArray × AV))
    (hm : P.underlying t = some (.map kt et)) (hk : P.underlying kt = some .string) (hz : (zeroAV P et).laid = true) (hx : ev s x = .mp id) (hix : ev s ix = .sc (.string k)) (hσ : σ id = some (.map (skvs kvs)))
    (h : K (s.put (some d) (lookV P et (findS k kvs) ok)) σ) : SOp P n ds Q ⟨some d, .lookup t x ix ok, ty, pos, af, g⟩ s σ K :=
  SOp.of_out hd fun G a w hs => lookup_out (K := fun v σ' => K (s.put (some d) v) σ') hs.inv hm hk hz (hx ▸ hs.ev x) (hix ▸ hs.ev ix) hσ h

/-- A map's block, written anew. -/
theorem Inv.setMap {G : Gh} {w : World} (h : Inv P G σ w) {id b : Nat} {ms : Array MapEntry} {clock : Nat} (hb : G.inj id = some b) (hw : w.heap[b]? = some (.map ms clock)) (ms' : Array MapEntry) (clock' : Nat) (es : List (AV × AV)) (hsz : ms'.size = es.length) (hst : StampB ms' clock')
    (hgrow : (∀ (k : Nat) (e : MapEntry), ms[k]? = some e → ∃ e', ms'[k]? = some e' ∧ e'.born = e.born) ∧ (∀ (k : Nat) (e' : MapEntry), ms'[k]? = some e' → ms[k]? = none → clock ≤ e'.born) ∧ clock ≤ clock' ∧ ms'.size + clock = ms.size + clock')
    (hr : ∀ k, k < es.length → ∃ m, ms'[k]? = some m ∧ Rep P G (es.getD k (.any, .any)).1 m.key ∧ Rep P G (es.getD k (.any, .any)).2 m.val) :
    Inv P G (σ.set id (.map es)) { w with heap := w.heap.setIfInBounds b (.map ms' clock') } := by
  have hlt := lt_of_heap hw
  have hB := h.injB id b hb
  have other : ∀ k, k ≠ b → (w.heap.setIfInBounds b (.map ms' clock'))[k]? = w.heap[k]? := fun k hk => Array.getElem?_setIfInBounds_ne (fun e => hk e.symm)
  have same : (w.heap.setIfInBounds b (.map ms' clock'))[b]? = some (.map ms' clock') := by simp [hlt]
  have hmem : ∀ o, G.mem b o = none := by
    intro o
    cases hm : G.mem b o with
    | none => rfl
    | some v =>
      have := (h.mem b o v hm).1
      simp [World.cell?, hw] at this
  refine ⟨⟨h.below.os, h.below.tape, h.below.output, by simpa using h.below.size, fun k hk => by
    have hkb : k ≠ b := by have := hB.1; omega
    rw [show ({ w with heap := w.heap.setIfInBounds b (.map ms' clock') } : World).heap[k]? = (w.heap.setIfInBounds b (.map ms' clock'))[k]? from rfl, other k hkb]
    exact h.below.block k hk⟩, h.base, ?_, h.top, ?_, h.inj1, ?_, ?_, ?_, ?_, ?_⟩
  · intro b' o v em
    have hne : b' ≠ b := by intro e'; subst e'; rw [hmem o] at em; cases em
    exact ⟨by rw [World.cell?_of_block (w := w) (other b' hne)]; exact (h.mem b' o v em).1, (h.mem b' o v em).2⟩
  · intro j c ej
    have := h.injB j c ej
    refine ⟨this.1, by simpa using this.2.1, fun ty' cs' hn => ?_⟩
    by_cases hj : j = id
    · subst hj; simp [AS.set] at hn
    · exact this.2.2 ty' cs' (by simpa [AS.set, hj] using hn)
  · intro j ty' cs' ej
    have hj : j ≠ id := by intro e'; subst e'; simp [AS.set] at ej
    simp [AS.set, hj] at ej
    obtain ⟨c, vs', k1, k2, k3⟩ := h.cells j ty' cs' ej
    have hne : c ≠ b := fun e' => hj (h.inj1 j id b (e' ▸ k1) hb)
    exact ⟨c, vs', k1, by rw [other c hne]; exact k2, k3⟩
  · intro j es' ej
    by_cases hj : j = id
    · subst hj
      simp [AS.set] at ej
      subst ej
      exact ⟨b, ms', clock', hb, same, ⟨hsz, hst⟩, hr⟩
    · simp [AS.set, hj] at ej
      obtain ⟨c, ms2, cl, k1, k2, k3⟩ := h.maps j es' ej
      have hne : c ≠ b := fun e' => hj (h.inj1 j id b (e' ▸ k1) hb)
      exact ⟨c, ms2, cl, k1, by rw [other c hne]; exact k2, k3⟩
  · intro j s p ej
    have hj : j ≠ id := by intro e'; subst e'; simp [AS.set] at ej; subst ej; cases p
    simp [AS.set, hj] at ej
    obtain ⟨c, k1, k2⟩ := h.iters j s p ej
    have hne : c ≠ b := fun e' => hj (h.inj1 j id b (e' ▸ k1) hb)
    refine ⟨c, k1, ?_⟩
    cases s with
    | siter s pos =>
      have k2' : w.heap[c]? = some (.stringIter s pos) := k2
      show (w.heap.setIfInBounds b (.map ms' clock'))[c]? = _
      rw [other c hne]; exact k2'
    | miter mid n0 done =>
      obtain ⟨m, since, seen, last, ms0, clock0, q1, q2, q3, q4, q5, q6, q7, q8, q9, q10, q11, q12, q13⟩ := k2
      by_cases hm : m = b
      · subst hm
        rw [hw] at q3
        cases q3
        refine ⟨m, since, seen, last, ms', clock', by rw [← q1]; exact other c hne, q2, same, ?_, q5, by have := hgrow.2.2.1; omega, hst, ?_, ?_, q10, q11, by have := hgrow.2.2.2; omega, ?_⟩
        · rcases Nat.lt_or_ge ms'.size n0 with hlt | hge
          · have hg : ms[ms'.size]? = some ms[ms'.size] := Array.getElem?_eq_getElem (by omega)
            obtain ⟨e', g1, _⟩ := hgrow.1 _ _ hg
            simp at g1
          · exact hge
        · intro k e hk
          cases hg : ms[k]? with
          | some e0 =>
            obtain ⟨e', g1, g2⟩ := hgrow.1 k e0 hg
            rw [hk] at g1
            cases g1
            rw [q8 k e0 hg, g2]
          | none =>
            have g1 := hgrow.2.1 k e hk hg
            have g2 : ms.size ≤ k := by simpa using hg
            constructor <;> intro <;> omega
        · intro k e hk hkn
          have hg : ms[k]? = some ms[k] := Array.getElem?_eq_getElem (by omega)
          obtain ⟨e', g1, g2⟩ := hgrow.1 k _ hg
          rw [hk] at g1
          cases g1
          rw [g2]
          exact q9 k _ hg hkn
        · intro k hk
          obtain ⟨e, g1, g2⟩ := q13 k hk
          obtain ⟨e', g3, g4⟩ := hgrow.1 k e g1
          exact ⟨e', g3, by rw [g2, g4]⟩
      · exact ⟨m, since, seen, last, ms0, clock0, by rw [← q1]; exact other c hne, q2, by rw [← q3]; exact other m hm, q4, q5, q6, q7, q8, q9, q10, q11, q12, q13⟩
    | cells ty cs => trivial
    | tok n => trivial
    | map es => trivial
  · intro j n ej
    have hj : j ≠ id := by intro e'; subst e'; simp [AS.set] at ej
    simp [AS.set, hj] at ej
    exact h.tok j n ej
  · intro t r et
    obtain ⟨k1, k2, k3⟩ := h.own t r et
    refine ⟨k1, k2, fun c o ea k hk1 hk2 => ?_⟩
    obtain ⟨m1, m2, m3, m4, m5, m6, m7⟩ := k3 c o ea k hk1 hk2
    have hne : c ≠ b := fun e' => m4 id (e' ▸ hb)
    refine ⟨?_, ?_, m3, m4, m5, by simpa using m6, m7⟩
    · rw [World.cell?_of_block (w := w) (other c hne)]; exact m1
    · rw [World.frozen?_of_block (w := w) (other c hne)]; exact m2

theorem stampB_push {ms : Array MapEntry} {clock : Nat} (h : StampB ms clock) {key val : Value} : StampB (ms.push { key, val, born := clock }) (clock + 1) := by
  constructor
  · intro k e hk
    rw [Array.getElem?_push] at hk
    split at hk
    · cases hk; simp
    · have := h.1 k e hk; omega
  · intro k k' e e' hk hk' he
    rw [Array.getElem?_push] at hk hk'
    split at hk <;> split at hk'
    · omega
    · cases hk; have := h.1 k' e' hk'; simp at he; omega
    · cases hk'; have := h.1 k e hk; simp at he; omega
    · exact h.2 k k' e e' hk hk' he
theorem grow_push (ms : Array MapEntry) (clock : Nat) (x : MapEntry) (hx : x.born = clock) :
    (∀ (k : Nat) (e : MapEntry), ms[k]? = some e → ∃ e', (ms.push x)[k]? = some e' ∧ e'.born = e.born) ∧ (∀ (k : Nat) (e' : MapEntry), (ms.push x)[k]? = some e' → ms[k]? = none → clock ≤ e'.born) ∧ clock ≤ clock + 1 ∧ (ms.push x).size + clock = ms.size + (clock + 1) := by
  refine ⟨fun k e hk => ⟨e, ?_, rfl⟩, fun k e' hk hn => ?_, by omega, by simp; omega⟩
  · have := (Array.getElem?_eq_some_iff.1 hk).1
    rw [Array.getElem?_push, if_neg (by omega)]
    exact hk
  · rw [Array.getElem?_push] at hk
    split at hk
    · cases hk; omega
    · rw [hn] at hk; cases hk
theorem stampB_modify {ms : Array MapEntry} {clock : Nat} (h : StampB ms clock) (j : Nat) (f : MapEntry → MapEntry) (hf : ∀ e, (f e).born = e.born) : StampB (ms.modify j f) clock := by
  have back : ∀ (k : Nat) (e : MapEntry), (ms.modify j f)[k]? = some e → ∃ e0, ms[k]? = some e0 ∧ e.born = e0.born := by
    intro k e hk
    rw [Array.getElem?_modify] at hk
    split at hk
    · cases hg : ms[k]? with
      | none => rw [hg] at hk; cases hk
      | some e0 => rw [hg] at hk; cases hk; exact ⟨e0, rfl, hf e0⟩
    · exact ⟨e, hk, rfl⟩
  constructor
  · intro k e hk
    obtain ⟨e0, h1, h2⟩ := back k e hk
    rw [h2]; exact h.1 k e0 h1
  · intro k k' e e' hk hk' he
    obtain ⟨e0, h1, h2⟩ := back k e hk
    obtain ⟨e1, h3, h4⟩ := back k' e' hk'
    exact h.2 k k' e0 e1 h1 h3 (by omega)
theorem grow_modify (ms : Array MapEntry) (clock : Nat) (j : Nat) (f : MapEntry → MapEntry) (hf : ∀ e, (f e).born = e.born) :
    (∀ (k : Nat) (e : MapEntry), ms[k]? = some e → ∃ e', (ms.modify j f)[k]? = some e' ∧ e'.born = e.born) ∧ (∀ (k : Nat) (e' : MapEntry), (ms.modify j f)[k]? = some e' → ms[k]? = none → clock ≤ e'.born) ∧ clock ≤ clock ∧ (ms.modify j f).size + clock = ms.size + clock := by
  refine ⟨fun k e hk => ?_, fun k e' hk hn => ?_, by omega, by simp⟩
  · rw [Array.getElem?_modify]
    split
    · exact ⟨f e, by rw [hk]; rfl, hf e⟩
    · exact ⟨e, hk, rfl⟩
  · rw [Array.getElem?_modify, hn] at hk
    split at hk <;> cases hk

theorem mapUpdate_out {G : Gh} {w : World} {K Pn : AV → AS → Prop} (hi : Inv P G σ w) {t kt et : TypeId} {x ix vx : Value} {v : AV} {id : Nat} {k : ByteArray} {kvs : List (ByteArray × AV)}
    (hm : P.underlying t = some (.map kt et)) (hk : P.underlying kt = some .string) (hx : Rep P G (.mp id) x) (hix : Rep P G (.sc (.string k)) ix) (hv : Rep P G v vx) (hσ : σ id = some (.map (skvs kvs)))
    (h : K .any (σ.set id (.map (skvs (updS k v kvs))))) : Out P G K Pn (((do Instr.mapUpdate t x ix vx; pure Next.skip) : Sem Next).run P w) := by
  obtain ⟨b, ms, clock, h1, h2, ⟨h3, hst⟩, h4⟩ := map_read hi hσ
  cases hix
  cases hx with
  | mp hb =>
    rw [h1] at hb
    obtain rfl := Option.some.inj hb
    have getS : ∀ (l : List (ByteArray × AV)) (j : Nat) (p : ByteArray × AV), l[j]? = some p → (skvs l).getD j (.any, .any) = (.sc (.string p.1), p.2) := by
      intro l j p hp
      simp [skvs, hp]
    have hsl : ∀ l, (skvs l).length = l.length := by intro l; simp [skvs]
    rcases findNow_str k v kvs ms.toList 0 (by simpa using h3) (fun j m hm => let ⟨p, a, b, _⟩ := h4 j m hm; ⟨p, a, b⟩) with ⟨g1, g2, g6⟩ | ⟨j, p, m, g1, g2, g3, g4, g5, g6⟩
    · have hrun : (Instr.mapUpdate t (.map (some b)) (.string k) vx).run P w = .ok () { w with heap := w.heap.setIfInBounds b (.map (ms.push { key := .string k, val := vx, born := clock }) (clock + 1)) } := by
        simp only [Instr.mapUpdate, Sem.run_bind, run_underlying hm, Result.andThen_ok, MapKept.run_getObj_map h2, Sem.run_pure, run_checkKey_str hk, run_findKey_str hk g2, MapKept.run_setObj_map _ h2]
      rw [g6] at h
      refine Out.unit hrun (.refl G) (hi.setMap h1 h2 _ _ (skvs (kvs ++ [(k, v)])) (by simp [hsl, h3]) (stampB_push hst) (grow_push ms clock _ rfl) (fun i hi' => ?_)) (.any _) h
      rw [hsl] at hi'
      simp at hi'
      by_cases hlt : i < kvs.length
      · have hmi : i < ms.size := by omega
        obtain ⟨p, q1, q2, q3⟩ := h4 i ms[i] (by simp [hmi])
        refine ⟨ms[i], by simp [Array.getElem?_push, hmi]; omega, ?_⟩
        rw [getS _ i p (by rw [List.getElem?_append_left hlt]; exact q1), q2]
        exact ⟨.sc _, q3⟩
      · have he : i = kvs.length := by omega
        subst he
        refine ⟨{ key := .string k, val := vx, born := clock }, by rw [← h3]; simp, ?_⟩
        rw [getS _ kvs.length (k, v) (by simp)]
        exact ⟨.sc _, hv⟩
    · have hjm : j < ms.size := by
        have := (List.getElem?_eq_some_iff.1 g2).1
        simpa using this
      have hold : ms[j]? = some m := by rw [← Array.getElem?_toList]; exact g2
      obtain ⟨p', q1, q2, q3⟩ := h4 j m g2
      rw [g1] at q1
      obtain rfl := Option.some.inj q1
      have hkey : (Instr.keyThatStays m.key (.string k)).run P w = .ok (.string k) w := by
        have : ∀ q : Nat, Instr.sameBits q (.string k) (.string k) = true := fun q => by simp [Instr.sameBits, bs_self]
        rw [q2, g3]
        simp [Instr.keyThatStays, this]
      have hrun : (Instr.mapUpdate t (.map (some b)) (.string k) vx).run P w = .ok () { w with heap := w.heap.setIfInBounds b (.map (ms.modify j fun e => { e with key := .string k, val := vx }) clock) } := by
        simp only [Instr.mapUpdate, Sem.run_bind, run_underlying hm, Result.andThen_ok, MapKept.run_getObj_map h2, Sem.run_pure, run_checkKey_str hk, run_findKey_str hk g5, Nat.zero_add, hold, Option.map_some, Option.getD_some, hkey, MapKept.run_setObj_map _ h2]
      rw [g6] at h
      refine Out.unit hrun (.refl G) (hi.setMap h1 h2 _ _ (skvs (kvs.set j (k, v))) (by simp [hsl, h3]) (stampB_modify hst j _ (fun _ => rfl)) (grow_modify ms clock j _ (fun _ => rfl)) (fun i hi' => ?_)) (.any _) h
      rw [hsl] at hi'
      simp at hi'
      have hmi : i < ms.size := by omega
      by_cases hij : i = j
      · subst hij
        refine ⟨{ m with key := .string k, val := vx }, by simp [Array.getElem?_modify, hold], ?_⟩
        rw [getS _ i (k, v) (by simp [List.getElem?_set, hi'])]
        exact ⟨.sc _, hv⟩
      · obtain ⟨p2, r1, r2, r3⟩ := h4 i ms[i] (by simp [hmi])
        refine ⟨ms[i], by rw [Array.getElem?_modify, if_neg (fun e => hij e.symm)]; exact Array.getElem?_eq_getElem hmi, ?_⟩
        rw [getS _ i p2 (by rw [List.getElem?_set_ne (fun e => hij e.symm)]; exact r1), r2]
        exact ⟨.sc _, r3⟩

theorem SOp.mapUpdate {t kt et : Nat} {m x ix : Operand} {ty : TypeId} {pos : String} {af : Array Edge} {g : Option (Nat × Bool)} {K : Fr → AS → Prop} (id : Nat) (k : ByteArray) (kvs : List (ByteArray × AV))
    (hm : P.underlying t = some (.map kt et)) (hk : P.underlying kt = some .string) (hx : ev s m = .mp id) (hix : ev s ix = .sc (.string k)) (hσ : σ id = some (.map (skvs kvs)))
    (h : K s (σ.set id (.map (skvs (updS k (ev s x) kvs))))) : SOp P n ds Q ⟨none, .mapUpdate t m ix x, ty, pos, af, g⟩ s σ K :=
  SOp.of_out trivial fun G a w hs => mapUpdate_out (K := fun v σ' => K (s.put none v) σ') hs.inv hm hk (hx ▸ hs.ev m) (hix ▸ hs.ev ix) (hs.ev x) hσ h

end Go.AW
