/- The engine: bodies, calls, regions that draw their order. -/
import Derived.Test.YtmcaongkodmbjaaGreatDoorEvA
import Derived.Maps.RangeRun
set_option linter.unusedVariables false
set_option linter.unusedSimpArgs false
namespace Go.EV
open Go Go.RowKit
set_option linter.unusedSimpArgs false
set_option linter.unusedVariables false

/-! ### a frame's state and what is left to do -/
structure St where
  t : Nat → AV
  L : Obs

def opd (st : St) : Operand → AV
  | .tmp t => st.t t
  | .const v => ofV v
  | .func f => .fn f []
  | .global _ => .bad

def St.step (st : St) (d : Option Nat) (v : AV) (e : Eff) : St :=
  ⟨match d with | some d => upd1 st.t d v | none => st.t, e.app st.L⟩
def St.set (st : St) (d : Nat) (v : AV) : St := ⟨upd1 st.t d v, st.L⟩

inductive It where
  | code (c : Code)
  | blk (id : Nat)
  | lp (c : Code)
  | ops (l : List Oper) (i : Nat) (all : Array Oper)

inductive Tree where
  | fail
  | br (b : Bool) (t e : Tree)
  | req (p : Prop) (t : Tree)
  | nilq (n : Nat) (t e : Tree)
  | call (f : Nat) (args : List AV) (st : St) (d : Option Nat) (k : List It)
  | goto (k : List It) (st : St)
  | done (st : St)
  | alt (n : Nat) (p : Nat → Prop) (f : Nat → Tree) (z : Tree)

structure SR (g : G) (N : Nat) (st : St) (a : Act) (w : World) : Prop where
  nt : a.tmps.size = N
  df : a.defers = []
  tm : ∀ i, R g (szf st.L) w (st.t i) (a.tmps.getD i undef)
  o : OR g st.L w

section
variable {P : Program} {g g' : G} {N : Nat} {st : St} {a : Act} {w w' : World}

theorem SR.opd (h : SR g N st a w) (x : Operand) : R g (szf st.L) w (opd st x) (a.eval x) := by
  cases x with
  | tmp t => exact h.tm t
  | const v => exact R_ofV v
  | global _ => exact R.bad _
  | func f => exact .fn f [] #[] rfl (fun i hi => absurd hi (by simp))

theorem put_getD (a : Act) (d : Nat) (u : Value) (hd : d < a.tmps.size) (i : Nat) : (a.put (some d) u).tmps.getD i undef = if i = d then u else a.tmps.getD i undef := by
  simp only [Act.put, Array.getD_eq_getD_getElem?, Array.getElem?_setIfInBounds]
  by_cases e : d = i
  · subst e; simp [hd]
  · rw [if_neg e, if_neg (fun h => e h.symm)]

theorem SR.step {e : Eff} {v : AV} {u : Value} {d : Option Nat} (h : SR g N st a w) (hs : Stp g st.L w g' (e.app st.L) w') (hR : R g' (szf (e.app st.L)) w' v u) (hd : ∀ i, d = some i → i < N) :
    SR g' N (st.step d v e) (a.put d u) w' := by
  cases d with
  | none => exact ⟨h.nt, h.df, fun i => (h.tm i).mono hs.m, hs.o⟩
  | some d =>
    have hd := hd d rfl
    refine ⟨by simp [Act.put, h.nt], h.df, fun i => ?_, hs.o⟩
    rw [put_getD a d u (by rw [h.nt]; exact hd)]
    simp only [St.step]
    by_cases e' : i = d
    · subst e'; rw [if_pos rfl, upd1_self]; exact hR
    · rw [if_neg e', upd1_ne _ _ e']; exact (h.tm i).mono hs.m

theorem SR.set_same {d : Nat} {v : AV} (h : SR g N st a w) (hv : st.t d = v) : SR g N (st.set d v) a w := by
  have : upd1 st.t d v = st.t := by
    funext i
    by_cases e : i = d
    · subst e; rw [upd1_self, hv]
    · rw [upd1_ne _ _ e]
  simp only [St.set, this]
  exact h
end

/-! ### the machine's side -/
/-- The machine at a loop's head, behind a round. -/
def LoopAt (P : Program) (c : Code) (Q : Exit → Act → World → Prop) (a : Act) (w : World) : Prop :=
  ∀ (b : Frame) (k : List Item) (cs : List Frame), ∃ e a' w', Q e a' w' ∧ Arrives P (lone (b.at a (.inLoop c :: k)) cs w) b k cs e a' w'

def itPost (P : Program) (Q : Exit → Act → World → Prop) : It → Exit → Act → World → Prop
  | .code c => Exit.then (c.wp P Q) Q
  | .blk id => Exit.inBlock id Q
  | .lp c => Exit.then (LoopAt P c Q) Q
  | .ops l i all => Exit.then (fun a w => all.toList.drop i = l → wpOps P all Q (List.range' i l.length) a w) Q

def post (P : Program) (fin : Exit → Act → World → Prop) : List It → Exit → Act → World → Prop
  | [] => fin
  | it :: k => itPost P (post P fin k) it

section
variable {P : Program} {Q : Exit → Act → World → Prop} {a : Act} {w : World} {c : Code}

theorem round_arrives {b : Frame} {k : List Item} {cs : List Frame} {m : Machine} (hm : Steps P m (lone (b.at a (.code c :: .inLoop c :: k)) cs w)) (h : c.wp P (Exit.then (LoopAt P c Q) Q) a w) :
    ∃ e a' w', Q e a' w' ∧ Arrives P m b k cs e a' w' := by
  obtain ⟨e, a₁, w₁, hq, harr⟩ := h b (.inLoop c :: k) cs
  cases e with
  | normal =>
    obtain ⟨e₂, a₂, w₂, hq₂, harr₂⟩ := hq b k cs
    exact ⟨e₂, a₂, w₂, hq₂, .of_steps (hm.trans harr) harr₂⟩
  | exit id => exact ⟨_, a₁, w₁, hq, .of_steps hm (.pass (x := .inLoop c) rfl (fun _ _ => .inl (by simp)) harr)⟩
  | goto l => exact ⟨_, a₁, w₁, hq, .of_steps hm (.pass (x := .inLoop c) rfl (fun _ _ => .inl (by simp)) harr)⟩
  | ret => exact ⟨_, a₁, w₁, hq, .of_steps hm (.pass (x := .inLoop c) rfl (fun _ _ => .inl (by simp)) harr)⟩
  | panic ch => exact ⟨_, a₁, w₁, hq, .of_steps hm (.pass (x := .inLoop c) rfl (fun _ _ => .inl (by simp)) harr)⟩
  | outgrown => exact ⟨_, a₁, w₁, hq, .of_steps hm (.pass (x := .inLoop c) rfl (fun _ _ => .inl (by simp)) harr)⟩

theorem loopAt_round (h : c.wp P (Exit.then (LoopAt P c Q) Q) a w) : LoopAt P c Q a w := fun _ _ _ => round_arrives (.one step_inLoop) h
theorem wp_loop_round (h : c.wp P (Exit.then (LoopAt P c Q) Q) a w) : (Code.loop c).wp P Q a w := fun _ _ _ => round_arrives (.one step_loop) h
end

def exitIn (id : Nat) : List It → Option (List It)
  | [] => none
  | .blk i :: k => bif Nat.beq i id then some k else exitIn id k
  | _ :: k => exitIn id k

theorem post_exit {P : Program} {fin : Exit → Act → World → Prop} {id : Nat} {a : Act} {w : World} : ∀ {k k' : List It}, exitIn id k = some k' → post P fin k' .normal a w → post P fin k (.exit id) a w
  | [], _, h, _ => by cases h
  | .code _ :: k, k', h, hp => post_exit (k := k) h hp
  | .lp _ :: k, k', h, hp => post_exit (k := k) h hp
  | .ops _ _ _ :: k, k', h, hp => post_exit (k := k) h hp
  | .blk i :: k, k', h, hp => by
    simp only [exitIn] at h
    show (if id = i then _ else _)
    by_cases e : id = i
    · subst e
      rw [beq_self] at h
      rw [if_pos rfl]; cases h; exact hp
    · rw [beq_ne (fun e' => e e'.symm)] at h
      rw [if_neg e]; exact post_exit (k := k) h hp

/-! ### the engine -/
def OT.toT (K : AV → Eff → Tree) : OT → Tree
  | .fail => .fail
  | .br b x y => .br b (x.toT K) (y.toT K)
  | .req p x => .req p (x.toT K)
  | .val v e => K v e

def okDst (N : Nat) : Option Nat → Bool
  | none => true
  | some d => Nat.blt d N

def dstAt : List Oper → Nat → Option Nat
  | o :: _, 0 => o.dst
  | _ :: l, n + 1 => dstAt l n
  | [], _ => none

structure Cf where
  τ : Ty
  own : Nat → Bool
  N : Nat
  cut : Nat → Bool

/-- Where it is told to stop. -/
def halt (cut : Nat → Bool) : Option Nat → Bool
  | some d => cut (1000000 + d)
  | none => false
/-- Where the engine stops, so that what it has can be told otherwise. -/
def stops (o : Oper) (v : AV) (e : Eff) : Bool :=
  match e with
  | .upd _ (.buf _ _ _) => true
  | .new _ (.buf _ _ _) => true
  | .new _ (.bx _ _ _ _) => true
  | .upd _ (.bx _ _ _ _) => true
  | .upd _ (.mp _ _) => match o.op with
    | .mapEntry _ _ _ => false
    | _ => true
  | _ => match o.op with
    | .slice _ _ _ _ _ => match v with
      | .sl _ _ _ => true
      | _ => false
    | .buildSlice _ _ _ => true
    | _ => false

/-- A frozen slice, asked whether it is nil: not known, but nil only if it has no length. -/
def nilqE (τ : Ty) (op : BinOp) (t : TypeId) (x y : AV) : Option (Nat × Bool) :=
  match τ t with
  | some ⟨.slice _, _⟩ => match x, y with
    | .sl n _ _, .v z => bif isNilS z then match op with
      | .eql => some (n, true)
      | .neq => some (n, false)
      | _ => none
      else none
    | _, _ => none
  | _ => none
/-- A key of a map, by its place. -/
def KL.keyA : KL → Nat → AV
  | .ints k l, i => .int k (l.getD i 0)
  | .strs l, i => .str (l.getD i ByteArray.empty)
/-- A range over a map. -/
def rangeM (τ : Ty) (st : St) (d : Option Nat) (t : TypeId) (x : AV) : Option (Nat × Nat × Nat) :=
  match τ t, x, d with
  | some ⟨.map _ _, _⟩, .omap m, some d => match st.L m, st.L d with
    | some (.mp ks _), none => some (d, m, ks.len)
    | _, _ => none
  | _, _, _ => none
structure MI where
  s : Nat
  m : Nat
  n : Nat
  rem : List Nat
  cur : Nat
  ks : KL
  f : Nat → AV
def nextM (st : St) (x : AV) (b : Bool) : Option MI :=
  match x, b with
  | .ref s w i off ep, false => match st.L s with
    | some (.mit m n rem cur) => match st.L m with
      | some (.mp ks f) => bif Nat.beq w 0 && (Nat.beq i 0 && (Nat.beq off 0 && Nat.beq ep 0)) then some ⟨s, m, n, rem, cur, ks, f⟩ else none
      | _ => none
    | _ => none
  | _, _ => none
def opT (cf : Cf) (st : St) (o : Oper) (l : List Oper) (i : Nat) (all : Array Oper) (k : List It) (K : St → Tree) : Tree :=
  bif okDst cf.N o.dst then
    match o.op with
    | .call ⟨.value f, args, _⟩ =>
      match opd st f with
      | .fn g caps => .call g (args.toList.map (opd st) ++ caps) st o.dst (.ops l (i + 1) all :: k)
      | _ => .fail
    | .binOp op t x y _ => match nilqE cf.τ op t (opd st x) (opd st y) with
      | some (n, b) => .nilq n (K (st.step o.dst (.bool b) .no)) (K (st.step o.dst (.bool !b) .no))
      | none => (opE cf.τ cf.own (opd st) st.L o).toT fun v e => bif stops o v e || halt cf.cut o.dst then .goto (.ops l (i + 1) all :: k) (st.step o.dst v e) else K (st.step o.dst v e)
    | .range t x => match rangeM cf.τ st o.dst t (opd st x) with
      | some (d, m, n) => .goto (.ops l (i + 1) all :: k) (st.step o.dst (.ref d 0 0 0 0) (.new d (.mit m n (List.range n) n)))
      | none => (opE cf.τ cf.own (opd st) st.L o).toT fun v e => bif stops o v e || halt cf.cut o.dst then .goto (.ops l (i + 1) all :: k) (st.step o.dst v e) else K (st.step o.dst v e)
    | .next x b => match nextM st (opd st x) b with
      | some q => .req (q.n = q.ks.len) (.alt q.rem.length (fun j => q.rem.getD j 0 < q.n) (fun j => .goto (.ops l (i + 1) all :: k) (st.step o.dst (.tup [.bool true, .bad, .bad]) (.upd q.s (.mit q.m q.n (q.rem.eraseIdx j) (q.rem.getD j 0)))))
          (.goto (.ops l (i + 1) all :: k) (st.step o.dst (.tup [.bool false]) .no)))
      | none => (opE cf.τ cf.own (opd st) st.L o).toT fun v e => bif stops o v e || halt cf.cut o.dst then .goto (.ops l (i + 1) all :: k) (st.step o.dst v e) else K (st.step o.dst v e)
    | .entry x => match nextM st (opd st x) false with
      | some q => .req (q.cur < q.n ∧ q.n = q.ks.len) (.goto (.ops l (i + 1) all :: k) (st.step o.dst (.tup [q.ks.keyA q.cur, q.f q.cur]) .no))
      | none => .fail
    | _ => (opE cf.τ cf.own (opd st) st.L o).toT fun v e => bif stops o v e || halt cf.cut o.dst then .goto (.ops l (i + 1) all :: k) (st.step o.dst v e) else K (st.step o.dst v e)
  else .fail

def evT (cf : Cf) : Nat → List It → St → Tree
  | 0, _, _ => .fail
  | _ + 1, [], st => .done st
  | n + 1, it :: k, st =>
    match it with
    | .blk _ => evT cf n k st
    | .lp c => .goto (.code c :: .lp c :: k) st
    | .code c =>
      match c with
      | .skip => evT cf n k st
      | .seq a b => evT cf n (.code a :: .code b :: k) st
      | .block id c => evT cf n (.code c :: .blk id :: k) st
      | .loop c => .goto (.code c :: .lp c :: k) st
      | .cond c a b => match opd st c with
        | .bool b' => .br b' (evT cf n (.code a :: k) st) (evT cf n (.code b :: k) st)
        | _ => .fail
      | .ret => .done st
      | .exit id => match exitIn id k with
        | some k' => evT cf n k' st
        | none => .fail
      | .region id ops draw => match draw with
        | false => bif cf.cut id then .goto (.code (.region id ops false) :: k) st else evT cf n (.ops ops.toList 0 ops :: k) st
        | true => .goto (.code (.region id ops true) :: k) st
      | _ => .fail
    | .ops l i all =>
      match l with
      | [] => evT cf n k st
      | o :: l =>
        match o.guard with
        | none => opT cf st o l i all k fun st => evT cf n (.ops l (i + 1) all :: k) st
        | some (j, want) =>
          match dstAt all.toList j with
          | some t => match st.t t with
            | .bool b => bif okDst cf.N o.dst then
                match want with
                | true => .br b (opT cf (st.set t (.bool true)) o l i all k fun st => evT cf n (.ops l (i + 1) all :: k) st) (evT cf n (.ops l (i + 1) all :: k) ((st.set t (.bool false)).step o.dst (.tup []) .no))
                | false => .br b (evT cf n (.ops l (i + 1) all :: k) ((st.set t (.bool true)).step o.dst (.tup []) .no)) (opT cf (st.set t (.bool false)) o l i all k fun st => evT cf n (.ops l (i + 1) all :: k) st)
              else .fail
            | .tup xs => bif okDst cf.N o.dst && xs.isEmpty then evT cf n (.ops l (i + 1) all :: k) (st.step o.dst (.tup []) .no) else .fail
            | _ => .fail
          | none => .fail

/-! ### what the engine says is so -/
/-- What is known of memory that no one of these functions writes. -/
structure Bs where
  p : G → World → Prop
  mono : ∀ {g : G} {w : World} {g' : G} {w' : World}, Fr g w g' w' → p g w → p g' w'
def noB : Bs := ⟨fun _ _ => True, fun _ h => h⟩

structure Cx where
  P : Program
  cf : Cf
  fin : Exit → Act → World → Prop
  g0 : G
  L0 : Obs
  w0 : World
  bs : Bs
  b0 : bs.p g0 w0

/-- What stands since the frame began. -/
structure In (c : Cx) (g : G) (L : Obs) (w : World) : Prop where
  f : Fr c.g0 c.w0 g w
  k : Kp c.g0 c.L0 g L
theorem In.step {c : Cx} {g : G} {L : Obs} {w : World} {g' : G} {L' : Obs} {w' : World} (h : In c g L w) (s : Stp g L w g' L' w') : In c g' L' w' :=
  ⟨h.f.trans s.f, h.k.trans s.k⟩

/-- From such a state on the machine comes where it should. -/
def Gd (c : Cx) (k : List It) (st : St) : Prop :=
  ∀ g a w, SR g c.cf.N st a w → In c g st.L w → post c.P c.fin k .normal a w

/-- A function that is called: by its code, or by the machine's own row. -/
def Ent (P : Program) (f : FuncId) (args : Array Value) (w : World) (K : Value → World → Prop) : Prop :=
  match (callFunc f args).run P w with
  | .ok (.enter f az) w1 => Calls P f az w1 fun e w' => ∃ u, e = .returned u ∧ K u w'
  | .ok (.value u) w1 => K u w1
  | _ => False

def Tree.Gd (c : Cx) : Tree → Prop
  | .fail => False
  | .br b t e => (b = true → t.Gd c) ∧ (b = false → e.Gd c)
  | .req p t => p ∧ t.Gd c
  | .nilq n t e => (n = 0 → t.Gd c) ∧ e.Gd c
  | .call f args st d k => ∀ g a w, SR g c.cf.N st a w → In c g st.L w → ∀ vs : Array Value, vs.size = args.length → (∀ i, i < args.length → R g (szf st.L) w (args.getD i .bad) (vs.getD i undef)) →
      Ent c.P f vs w fun u w' => post c.P c.fin k .normal (a.put d u) w'
  | .goto k st => Go.EV.Gd c k st
  | .alt n p f z => (n = 0 → z.Gd c) ∧ ∀ j, j < n → p j → (f j).Gd c
  | .done st => ∀ g a w, SR g c.cf.N st a w → In c g st.L w → c.fin .normal a w ∧ c.fin .ret a w
end Go.EV
namespace Go.EV
open Go Go.RowKit
set_option linter.unusedSimpArgs false
set_option linter.unusedVariables false
/-! ### ranges over maps -/
section
variable {P : Program} {g : G} {N : Nat} {st : St} {a : Act} {w : World}
theorem rangeM_ok (hs : SR g N st a w) {τ : Ty} (hτ : TyOK P τ) {o : Oper} {t : TypeId} {x : Operand} (ho : o.op = .range t x) {d m n : Nat} (h : rangeM τ st o.dst t (opd st x) = some (d, m, n)) :
    ShowsO P g st.L w (execOp a.eval o) (.ref d 0 0 0 0) (.new d (.mit m n (List.range n) n)) := by
  have hx := hs.opd x
  unfold rangeM at h
  split at h
  · rename_i kt et inf m' d' ht hom hdst
    split at h
    · rename_i ks f hm hd
      cases h
      rw [hom] at hx
      obtain ⟨bm, κ, ms, hv, hβ, hh, hks, hms⟩ := omap_inv hx hm hs.o
      have hn : ms.size = ks.len := ms_len hks
      have hst := Stp.new hs.o hd (.mit m ks.len (List.range ks.len) ks.len) (.mapIter (some bm) ks.len #[] ks.len) 0 (fun g' sz' hmo hβ' => by
        refine ⟨_, _, bm, #[], hβ', push_new w _, ?_, fun i hi => by simp [hi], fun i hi => List.mem_range.1 hi, List.nodup_range, fun hc => absurd hc (Nat.lt_irrefl _)⟩
        have hz : szf st.L m = 0 := by simp [szf, hm, szOf]
        rcases hmo.st m with ⟨h0, _⟩ | ⟨h1, h2⟩ | h1
        · rw [h0] at hβ; cases hβ
        · exact .inr ⟨h1.trans hz, κ, h2.trans hβ⟩
        · exact .inl (by omega))
      refine ⟨.pointer (some ⟨w.heap.size, 0, none⟩), _, _, .inl ?_, ?_, hst⟩
      · have hget : (getObj bm).run P w = .ok (.map ms ms.size) w := Go.MapKept.run_getObj_map hh
        simp only [execOp, ho, hv]
        simp [Instr.range, run_underlying (hτ t _ ht).u, hget, hn]
      · have : (⟨w.heap.size, 0, none⟩ : Addr) = ⟨w.heap.size, 0 * 0 + 0, none⟩ := by simp
        rw [this]
        exact .ref _ _ _ _ _ _ 0 (by simp [szf, app_new, upd1_self, szOf]) (upd1_self _ _ _)
    · cases h
  · cases h

/-- What stands of an iterator and its map. -/
theorem mit_inv (hs : SR g N st a w) {x : Operand} {b : Bool} {q : MI} (h : nextM st (opd st x) b = some q) : b = false ∧ st.L q.s = some (.mit q.m q.n q.rem q.cur) ∧
    ∃ r κ bm κm ms seen, a.eval x = .pointer (some ⟨r, 0, none⟩) ∧ g.β q.s = some (r, κ) ∧ w.heap[r]? = some (.mapIter (some bm) q.n seen q.n) ∧ g.β q.m = some (bm, κm) ∧ szf st.L q.m = 0 ∧ w.heap[bm]? = some (.map ms ms.size) ∧ ms.size = q.ks.len ∧
      ms.toList.map (·.key) = q.ks.vals ∧ (∀ i (hi : i < ms.size), ms[i].born = i ∧ F g.S w (q.f i) ms[i].val ∧ ms[i].val.oneCell' = true) ∧
      (∀ i, i < q.n → (seen.contains i = false ↔ i ∈ q.rem)) ∧ (∀ i ∈ q.rem, i < q.n) ∧ q.rem.Nodup ∧ (q.cur < q.n → seen.back? = some q.cur) := by
  have hx := hs.opd x
  unfold nextM at h
  split at h
  · rename_i s w' i off ep hr
    split at h
    · rename_i m n rem cur hmit
      split at h
      · rename_i ks f hmp
        cases hb : (Nat.beq w' 0 && (Nat.beq i 0 && (Nat.beq off 0 && Nat.beq ep 0))) with
        | false => rw [hb] at h; cases h
        | true =>
        rw [hb] at h
        cases h
        simp only [Bool.and_eq_true, Nat.beq_eq] at hb
        obtain ⟨rfl, rfl, rfl, rfl⟩ := hb
        rw [hr] at hx
        obtain ⟨r, κ, bm, seen, h1, h2, h3, h4, h5, h6, h7⟩ := hs.o.ob s _ hmit
        obtain ⟨b', κ', h8, h9⟩ := ref_inv hx (by simp [szf, hmit, szOf])
        rw [h1] at h8; cases h8
        have hz : szf st.L m = 0 := by simp [szf, hmp, szOf]
        rcases h3 with h3 | ⟨_, κm, h3⟩
        · omega
        obtain ⟨bm', κm', ms, k1, k2, k3, k4⟩ := hs.o.ob m _ hmp
        rw [h3] at k1; cases k1
        exact ⟨rfl, hmit, r, κ, bm, κm, ms, seen, by rw [h9], h1, h2, h3, hz, k2, ms_len k3, k3, k4, h4, h5, h6, h7⟩
      · cases h
    · cases h
  · cases h

theorem nextM_ok (hs : SR g N st a w) {o : Oper} {x : Operand} {b : Bool} (ho : o.op = .next x b) {q : MI} (h : nextM st (opd st x) b = some q) (hn : q.n = q.ks.len) :
    (q.rem.length = 0 ∧ ShowsO P g st.L w (execOp a.eval o) (.tup [.bool false]) .no) ∨
    ∃ j, j < q.rem.length ∧ q.rem.getD j 0 < q.n ∧ ShowsO P g st.L w (execOp a.eval o) (.tup [.bool true, .bad, .bad]) (.upd q.s (.mit q.m q.n (q.rem.eraseIdx j) (q.rem.getD j 0))) := by
  obtain ⟨rfl, hmit, r, κ, bm, κm, ms, seen, hv, hβ, hr, hβm, hz, hm, hms, hks, hrow, h1, h2, h3, h4⟩ := mit_inv hs h
  have hold : ∀ y ∈ ms.toList, y.born < q.n := fun y hy => by
    obtain ⟨i, hi, rfl⟩ := List.getElem_of_mem hy
    have hi' : i < ms.size := by simpa using hi
    have := (hrow i hi').1
    simp only [Array.getElem_toList]
    omega
  have hE : execOp a.eval o = (do pure (Next.value (← Instr.next (.pointer (some ⟨r, 0, none⟩)) false o.type))) := by simp only [execOp, ho, hv]
  rcases run_next_at (P := P) w o.type r bm q.n q.n seen ms ms.size hr hm hold (Nat.le_refl _) with ⟨h0, hrun⟩ | ⟨e, he, w1, hw1, hrun⟩
  · refine .inl ⟨?_, .tuple #[.bool false], w, g, .inl (by rw [hE, Sem.run_bind, hrun]; rfl), .tup _ _ rfl fun i hi => ?_, Stp.refl hs.o⟩
    · rcases Nat.eq_zero_or_pos q.rem.length with h5 | h5
      · exact h5
      · exfalso
        have hmem : q.rem[0] ∈ q.rem := List.getElem_mem h5
        have hlt := h2 _ hmem
        have hsn := (h1 _ hlt).2 hmem
        have hi : q.rem[0] < ms.size := by omega
        have : ms[q.rem[0]] ∈ leftOf ms seen := by
          unfold leftOf
          rw [Array.mem_filter]
          refine ⟨Array.getElem_mem hi, ?_⟩
          rw [(hrow _ hi).1, hsn]; rfl
        have e0 : leftOf ms seen = #[] := Array.eq_empty_of_size_eq_zero h0
        rw [e0] at this
        simp at this
    · match i, hi with
      | 0, _ => exact R.bool _
  · have he' : e ∈ leftOf ms seen := by simpa using he
    unfold leftOf at he'
    rw [Array.mem_filter] at he'
    obtain ⟨he1, he2⟩ := he'
    obtain ⟨i, hi, rfl⟩ := Array.getElem_of_mem he1
    have hb := (hrow i hi).1
    rw [hb] at hrun he2
    have hin : i < q.n := by omega
    have hsn : seen.contains i = false := by simpa using he2
    have hmem := (h1 i hin).1 hsn
    have hj := List.idxOf_lt_length_of_mem hmem
    have hg : q.rem.getD (q.rem.idxOf i) 0 = i := by simp [List.getD, hj]
    refine .inr ⟨q.rem.idxOf i, hj, by rw [hg]; exact hin, ?_⟩
    rw [hg]
    have key : ∀ w2 : World, OR g st.L w2 → w2.heap = w.heap → Stp g st.L w2 g ((Eff.upd q.s (.mit q.m q.n (q.rem.eraseIdx (q.rem.idxOf i)) i)).app st.L) (setO w2 r (.mapIter (some bm) q.n (seen.push i) ms.size)) := fun w2 hO2 hw2 => by
      refine Stp.put hO2 hβ _ _ (by simp [szf, hmit, szOf]) fun hmo => ?_
      refine ⟨r, κ, bm, seen.push i, hβ, ?_, ?_, fun i' hi' => ?_, fun i' hi' => h2 i' (List.mem_of_mem_eraseIdx hi'), h3.sublist (List.eraseIdx_sublist _ _), fun _ => by simp⟩
      · have : ms.size = q.n := by omega
        rw [this]
        exact setO_at (by rw [hw2]; exact hr)
      · rcases hmo.st q.m with ⟨k0, _⟩ | ⟨k1, k2⟩ | k1
        · rw [k0] at hβm; cases hβm
        · exact .inr ⟨k1.trans hz, κm, k2.trans hβm⟩
        · exact .inl (by omega)
      · rw [← List.erase_eq_eraseIdx_of_idxOf rfl, List.Nodup.mem_erase_iff h3, ← h1 i' hi']
        simp [Array.contains_push, and_comm]
    have hset : Go.ChangeMaps.setBlock w1 r (.mapIter (some bm) q.n (seen.push i) ms.size) = setO w1 r (.mapIter (some bm) q.n (seen.push i) ms.size) := rfl
    rw [hset] at hrun
    have hst : Stp g st.L w g ((Eff.upd q.s (.mit q.m q.n (q.rem.eraseIdx (q.rem.idxOf i)) i)).app st.L) (setO w1 r (.mapIter (some bm) q.n (seen.push i) ms.size)) := by
      rcases hw1 with rfl | rfl
      · exact key _ hs.o rfl
      · exact (key _ (drew_OR hs.o) rfl).of_drew
    refine ⟨.tuple #[.bool true, ms[i].key, ms[i].val], _, g, .inl (by rw [hE, Sem.run_bind, hrun]; rfl), .tup _ _ rfl fun j hj' => ?_, hst⟩
    match j, hj' with
    | 0, _ => exact R.bool _
    | 1, _ => exact R.bad _
    | 2, _ => exact R.bad _

theorem keyA_ok {sz : Nat → Nat} {ks : KL} {i : Nat} (hi : i < ks.len) : R g sz w (ks.keyA i) (ks.vals.getD i undef) := by
  cases ks with
  | ints k l =>
    have hi : i < l.length := hi
    simp only [KL.keyA, KL.vals, List.getD, List.getElem?_map, List.getElem?_eq_getElem hi, Option.map_some, Option.getD_some]
    exact R.int _ _
  | strs l =>
    have hi : i < l.length := hi
    simp only [KL.keyA, KL.vals, List.getD, List.getElem?_map, List.getElem?_eq_getElem hi, Option.map_some, Option.getD_some]
    exact R.str _

theorem entryM_ok (hs : SR g N st a w) {o : Oper} {x : Operand} (ho : o.op = .entry x) {q : MI} (h : nextM st (opd st x) false = some q) (hc : q.cur < q.n) (hn : q.n = q.ks.len) :
    ShowsO P g st.L w (execOp a.eval o) (.tup [q.ks.keyA q.cur, q.f q.cur]) .no := by
  obtain ⟨_, hmit, r, κ, bm, κm, ms, seen, hv, hβ, hr, hβm, hz, hm, hms, hks, hrow, h1, h2, h3, h4⟩ := mit_inv hs h
  obtain ⟨pre, rfl⟩ := Array.back?_eq_some_iff.1 (h4 hc)
  have hi : q.cur < ms.size := by omega
  have hb := (hrow _ hi).1
  have hborn : ms.toList.map (·.born) = List.range ms.size := by
    apply List.ext_getElem
    · simp
    · intro i h5 h6
      have h5' : i < ms.size := by simpa using h5
      simp [(hrow i h5').1]
  have hnd : (ms.toList.map (·.born)).Nodup := by rw [hborn]; exact List.nodup_range
  have hrun := run_entry_at (P := P) w r bm q.n pre ms ms.size ms[q.cur] (by rw [hb]; rw [show ms.size = q.n by omega]; exact hr) hm (by simp) hnd
  have hE : execOp a.eval o = (do pure (Next.value (← Instr.entry (.pointer (some ⟨r, 0, none⟩))))) := by simp only [execOp, ho, hv]
  refine ⟨.tuple #[ms[q.cur].key, ms[q.cur].val], w, g, .inl (by rw [hE, Sem.run_bind, hrun]; rfl), .tup _ _ rfl fun j hj => ?_, Stp.refl hs.o⟩
  match j, hj with
  | 0, _ =>
    have hk := keyA_ok (g := g) (sz := szf (Eff.app .no st.L)) (w := w) (ks := q.ks) (i := q.cur) (by omega)
    have e : q.ks.vals.getD q.cur undef = ms[q.cur].key := by
      rw [← hks]
      simp [List.getD, hi]
    rw [e] at hk
    exact hk
  | 1, _ => exact .fz _ _ (hrow _ hi).2.1
end
end Go.EV
namespace Go.EV
open Go Go.RowKit
set_option linter.unusedSimpArgs false
set_option linter.unusedVariables false

section
variable {c : Cx}

theorem toT_gd {K : AV → Eff → Tree} : ∀ {ot : OT}, (ot.toT K).Gd c → ∃ v e, ot.Leaf v e ∧ (K v e).Gd c
  | .fail, h => h.elim
  | .br b x y, h => by
    cases b with
    | true => obtain ⟨v, e, h1, h2⟩ := toT_gd (h.1 rfl); exact ⟨v, e, .inl ⟨rfl, h1⟩, h2⟩
    | false => obtain ⟨v, e, h1, h2⟩ := toT_gd (h.2 rfl); exact ⟨v, e, .inr ⟨rfl, h1⟩, h2⟩
  | .req p x, h => by obtain ⟨v, e, h1, h2⟩ := toT_gd h.2; exact ⟨v, e, ⟨h.1, h1⟩, h2⟩
  | .val v e, h => ⟨v, e, ⟨rfl, rfl⟩, h⟩

theorem post_ret {P : Program} {fin : Exit → Act → World → Prop} {a : Act} {w : World} (h : fin .ret a w) : ∀ k : List It, post P fin k .ret a w
  | [] => h
  | .code _ :: k => post_ret h k
  | .blk _ :: k => post_ret h k
  | .lp _ :: k => post_ret h k
  | .ops _ _ _ :: k => post_ret h k

theorem run_call {P : Program} {ρ : Operand → Value} {o : Oper} {f : Operand} {args : Array Operand} {ts : Array TypeId} (ho : o.op = .call ⟨.value f, args, ts⟩) {g : Nat} {cs : Array Value} (hf : ρ f = .func (.func g) #[] cs) (w : World) :
    (execOp ρ o).run P w = (callFunc g (args.map ρ ++ cs)).run P w := by
  simp only [execOp, ho, resolve, hf, Deferred.ofValue, Sem.run_bind, Sem.run_pure, Result.andThen_ok, invoke, Array.empty_append]

theorem Ent.upon {P : Program} {o : Oper} {a : Act} {w : World} {next : Act → World → Prop} {Q : Exit → Act → World → Prop} {f : FuncId} {vs : Array Value}
    (hr : (execOp a.eval o).run P w = (callFunc f vs).run P w) (h : Ent P f vs w fun u w' => next (a.put o.dst u) w') : o.wp P a w next Q := by
  unfold Oper.wp
  rw [hr]
  unfold Ent at h
  split at h
  · rename_i f' az w1 hc
    rw [hc, Oper.upon_enter]
    refine h.mono fun e w' he => ?_
    obtain ⟨u, rfl, hk⟩ := he
    exact hk
  · rename_i u w1 hc
    rw [hc]; exact h
  · exact h.elim

theorem drop_get {α : Type} {xs : List α} {i : Nat} {x : α} {l : List α} (h : xs.drop i = x :: l) : xs[i]? = some x ∧ xs.drop (i + 1) = l := by
  constructor
  · have := congrArg (·[0]?) h
    simpa [List.getElem?_drop] using this
  · rw [← List.drop_drop, h]; rfl

theorem dstAt_eq : ∀ (l : List Oper) (j : Nat), dstAt l j = (l[j]?).bind (·.dst)
  | [], j => by cases j <;> rfl
  | o :: l, 0 => rfl
  | o :: l, n + 1 => by simp only [dstAt, List.getElem?_cons_succ]; exact dstAt_eq l n

theorem R.undef {g : G} {sz : Nat → Nat} {w : World} : R g sz w (.tup []) undef := .tup [] #[] rfl fun i hi => absurd hi (by simp)
theorem yielded_not {g : G} {st : St} {a : Act} {w : World} (h : SR g c.cf.N st a w) {all : Array Oper} {j t : Nat} (hd : dstAt all.toList j = some t) (ht : st.t t = .tup []) : yielded all a.tmps j = none := by
  have h1 := h.tm t
  rw [ht] at h1
  obtain ⟨cs, h2, hl, _⟩ := h1.tup_inv
  have hcs : cs = #[] := Array.eq_empty_of_size_eq_zero (by simpa using hl)
  subst hcs
  rw [dstAt_eq] at hd
  have h3 : (all[j]?).bind (·.dst) = some t := by rw [← Array.getElem?_toList]; exact hd
  simp only [yielded, h3, Option.bind_some]
  rw [Array.getD_eq_getD_getElem?] at h2
  cases e : a.tmps[t]? with
  | none => rfl
  | some x => rw [e] at h2; simp only [Option.getD_some] at h2; rw [h2]
theorem yielded_of {g : G} {st : St} {a : Act} {w : World} (h : SR g c.cf.N st a w) {all : Array Oper} {j t : Nat} {b : Bool} (hd : dstAt all.toList j = some t) (ht : st.t t = .bool b) : yielded all a.tmps j = some b := by
  have h1 := h.tm t
  rw [ht] at h1
  have h2 := h1.bool_inv
  rw [dstAt_eq] at hd
  have h3 : (all[j]?).bind (·.dst) = some t := by rw [← Array.getElem?_toList]; exact hd
  have h4 : a.tmps[t]? = some (.bool b) := by
    rw [Array.getD_eq_getD_getElem?] at h2
    cases e : a.tmps[t]? with
    | none => rw [e] at h2; cases h2
    | some x => rw [e] at h2; simpa using h2
  simp [yielded, h3, h4]

theorem nilqE_ok {P : Program} {τ : Ty} (hτ : TyOK P τ) {g : G} {sz : Nat → Nat} {w : World} {op : BinOp} {t : TypeId} {x y : AV} {a b : Value} (hx : R g sz w x a) (hy : R g sz w y b) {n : Nat} {r : Bool} (h : nilqE τ op t x y = some (n, r)) (ox oy : Operand) :
    ∃ q : Bool, (do eqGuard op t ox oy a b; binOp op t a b : Sem Value).run P w = .ok (.bool q) w ∧ ((q = r ∧ n = 0) ∨ q = !r) := by
  unfold nilqE at h
  split at h
  · rename_i el inf ht
    split at h
    · rename_i n' w' f z
      cases hz : isNilS z with
      | false => rw [hz] at h; cases h
      | true =>
      rw [hz] at h
      obtain rfl := isNilS_eq hz
      obtain rfl := hy.v_inv
      obtain ⟨a', cap, rfl, hin⟩ := hx.sl_inv.sl_inv
      have hn : a' = none → n' = 0 := fun e => by
        rcases Nat.eq_zero_or_pos n' with h0 | h0
        · exact h0
        · obtain ⟨_, _, _, e2, _⟩ := hin h0
          rw [e] at e2; cases e2
      have key : ∀ d, (Op.equalIn (d + 1) t (.slice a' n' cap) (.slice none 0 0)).run P w = .ok a'.isNone w := fun d => by
        cases a' <;> simp [Op.equalIn, run_underlying (hτ t _ ht).u]
      have hrun : (Op.equal t (.slice a' n' cap) (.slice none 0 0)).run P w = .ok a'.isNone w := key 9999
      have hg : (eqGuard op t ox oy (.slice a' n' cap) (.slice none 0 0)).run P w = .ok () w := by unfold eqGuard; cases op <;> rfl
      cases op <;> simp only [cond_true] at h <;> try (cases h; done)
      · cases h
        refine ⟨a'.isNone, by simp only [binOp, Sem.run_bind, hg, hrun, Result.andThen_ok, Sem.run_pure], ?_⟩
        cases a' with
        | none => exact .inl ⟨rfl, hn rfl⟩
        | some => exact .inr rfl
      · cases h
        refine ⟨!a'.isNone, by simp only [binOp, Sem.run_bind, hg, hrun, Result.andThen_ok, Sem.run_pure], ?_⟩
        cases a' with
        | none => exact .inl ⟨rfl, hn rfl⟩
        | some => exact .inr rfl
    · cases h
  · cases h

theorem evT_ok (hτ : TyOK c.P c.cf.τ) : ∀ (n : Nat) (k : List It) (st : St), (evT c.cf n k st).Gd c → Gd c k st := by
  intro n
  induction n with
  | zero => intro k st h; exact h.elim
  | succ n ih =>
    intro k st h
    cases k with
    | nil => exact fun g a w hs hf => (h g a w hs hf).1
    | cons it k =>
    -- one operation, at its place
    have hop : ∀ (st : St) (o : Oper) (l : List Oper) (i : Nat) (all : Array Oper), (opT c.cf st o l i all k fun st => evT c.cf n (.ops l (i + 1) all :: k) st).Gd c →
        ∀ g a w, SR g c.cf.N st a w → In c g st.L w → all.toList.drop i = o :: l → Region.wanted o (yielded all a.tmps) = true → wpOps c.P all (post c.P c.fin k) (List.range' i (l.length + 1)) a w := by
      intro st o l i all h g a w hs hf hdrop hw
      obtain ⟨hget, hdrop'⟩ := drop_get hdrop
      have hget : all[i]? = some o := by rw [← Array.getElem?_toList]; exact hget
      rw [List.range'_succ]
      simp only [wpOps, hget, hw, if_true]
      left
      unfold opT at h
      cases hd : okDst c.cf.N o.dst with
      | false => rw [hd] at h; exact h.elim
      | true =>
      rw [hd] at h
      simp only [cond_true] at h
      have hdst : ∀ d, o.dst = some d → d < c.cf.N := by
        intro d e; rw [e] at hd; exact Nat.blt_eq.mp hd
      have hplain : ((opE c.cf.τ c.cf.own (opd st) st.L o).toT fun v e => bif stops o v e || halt c.cf.cut o.dst then .goto (.ops l (i + 1) all :: k) (st.step o.dst v e) else evT c.cf n (.ops l (i + 1) all :: k) (st.step o.dst v e)).Gd c →
          o.wp c.P a w (wpOps c.P all (post c.P c.fin k) (List.range' (i + 1) l.length)) (post c.P c.fin k) := by
        intro h
        obtain ⟨v, e, hl, hk⟩ := toT_gd h
        obtain ⟨u, w', g', hr, hR, hst⟩ := opE_ok hs.o hτ (fun x => hs.opd x) hl
        have hnext : wpOps c.P all (post c.P c.fin k) (List.range' (i + 1) l.length) (a.put o.dst u) w' := by
          cases hstop : stops o v e || halt c.cf.cut o.dst with
          | true => rw [hstop] at hk; exact hk g' _ _ (hs.step hst hR hdst) (hf.step hst) hdrop'
          | false => rw [hstop] at hk; exact ih _ _ hk g' _ _ (hs.step hst hR hdst) (hf.step hst) hdrop'
        unfold Oper.wp
        rcases hr with hr | ⟨hr, rfl⟩
        · rw [hr]; exact hnext
        · rw [hr]; exact hnext
      have hstep : ∀ {v : AV} {e : Eff}, ShowsO c.P g st.L w (execOp a.eval o) v e → (Tree.goto (.ops l (i + 1) all :: k) (st.step o.dst v e)).Gd c →
          o.wp c.P a w (wpOps c.P all (post c.P c.fin k) (List.range' (i + 1) l.length)) (post c.P c.fin k) := by
        intro v e hsh hk
        obtain ⟨u, w', g', hr, hR, hst⟩ := hsh
        have hnext : wpOps c.P all (post c.P c.fin k) (List.range' (i + 1) l.length) (a.put o.dst u) w' := hk g' _ _ (hs.step hst hR hdst) (hf.step hst) hdrop'
        unfold Oper.wp
        rcases hr with hr | ⟨hr, rfl⟩
        · rw [hr]; exact hnext
        · rw [hr]; exact hnext
      split at h
      · rename_i f args ts ho
        split at h
        · rename_i gf caps hf0
          have hfv := hs.opd f
          rw [hf0] at hfv
          obtain ⟨cs, hfc, hcl, hcr⟩ := hfv.fn_inv
          refine Ent.upon (run_call ho hfc w) ?_
          have hE := h g a w hs hf (args.map a.eval ++ cs) (by simp [hcl]) (fun j hj => ?_)
          · unfold Ent at hE ⊢
            split
            · rename_i f' az w1 hc
              rw [hc] at hE
              refine hE.mono fun e w' he => ?_
              obtain ⟨u, rfl, hk⟩ := he
              exact ⟨u, rfl, hk hdrop'⟩
            · rename_i u w1 hc
              rw [hc] at hE
              exact hE hdrop'
            · rename_i hc1 hc2
              split at hE
              · rename_i f' az w1 hc; exact (hc1 _ _ _ hc).elim
              · rename_i u w1 hc; exact (hc2 _ _ hc).elim
              · exact hE.elim
          · simp only [List.getD, Array.getD_eq_getD_getElem?, List.getElem?_append, Array.getElem?_append, List.length_map, Array.size_map, Array.length_toList]
            by_cases hj2 : j < args.size
            · rw [if_pos hj2, if_pos hj2]
              simp [hj2]
              exact hs.opd _
            · rw [if_neg hj2, if_neg hj2]
              have hj3 : j - args.size < caps.length := by
                simp at hj; omega
              have := hcr _ hj3
              simpa [List.getD, Array.getD_eq_getD_getElem?] using this
        · exact h.elim
      · rename_i op t x y ap ho
        split at h
        · rename_i n b hq
          obtain ⟨r, hr, hn⟩ := nilqE_ok (P := c.P) hτ (a := a.eval x) (b := a.eval y) (hs.opd x) (hs.opd y) hq x y
          have hE : (execOp a.eval o).run c.P w = .ok (.value (.bool r)) w := by
            simp only [execOp, ho, Sem.run_bind] at hr ⊢
            rw [hr]; rfl
          unfold Oper.wp
          rw [hE]
          rcases hn with ⟨rfl, hn⟩ | rfl
          · exact ih _ _ (h.1 hn) g _ _ (hs.step (Stp.refl hs.o) (R.bool _) hdst) hf hdrop'
          · exact ih _ _ h.2 g _ _ (hs.step (Stp.refl hs.o) (R.bool _) hdst) hf hdrop'
        · exact hplain h
      · rename_i t x ho
        split at h
        · rename_i d m n hq
          exact hstep (rangeM_ok hs hτ ho hq) h
        · exact hplain h
      · rename_i x b ho
        split at h
        · rename_i q hq
          rcases nextM_ok (P := c.P) hs ho hq h.1 with ⟨h1, h2⟩ | ⟨j, h1, h2, h3⟩
          · exact hstep h2 (h.2.1 h1)
          · exact hstep h3 (h.2.2 j h1 h2)
        · exact hplain h
      · rename_i x ho
        split at h
        · rename_i q hq
          exact hstep (entryM_ok hs ho hq h.1.1 h.1.2) h.2
        · exact h.elim
      · exact hplain h

    have hskip : ∀ (st : St) (o : Oper) (l : List Oper) (i : Nat) (all : Array Oper), okDst c.cf.N o.dst = true → (evT c.cf n (.ops l (i + 1) all :: k) (st.step o.dst (.tup []) .no)).Gd c →
        ∀ g a w, SR g c.cf.N st a w → In c g st.L w → all.toList.drop i = o :: l → Region.wanted o (yielded all a.tmps) = false → wpOps c.P all (post c.P c.fin k) (List.range' i (l.length + 1)) a w := by
      intro st o l i all hd h g a w hs hf hdrop hw
      obtain ⟨hget, hdrop'⟩ := drop_get hdrop
      have hget : all[i]? = some o := by rw [← Array.getElem?_toList]; exact hget
      rw [List.range'_succ]
      simp only [wpOps, hget, hw, Bool.false_eq_true, if_false]
      have hdst : ∀ d, o.dst = some d → d < c.cf.N := by
        intro d e; rw [e] at hd; exact Nat.blt_eq.mp hd
      exact ih _ _ h g _ _ (hs.step (Stp.refl hs.o) R.undef hdst) hf hdrop'
    cases it with
    | blk id => exact fun g a w hs hf => ih k st h g a w hs hf
    | lp cd => exact fun g a w hs hf => loopAt_round (h g a w hs hf)
    | code cd =>
      cases cd with
      | skip => exact fun g a w hs hf => wp_skip (ih k st h g a w hs hf)
      | seq x y => exact fun g a w hs hf => wp_seq (ih (.code x :: .code y :: k) st h g a w hs hf)
      | block id cd => exact fun g a w hs hf => wp_block (ih (.code cd :: .blk id :: k) st h g a w hs hf)
      | loop cd => exact fun g a w hs hf => wp_loop_round (h g a w hs hf)
      | cond x y z =>
        intro g a w hs hf
        simp only [evT] at h
        split at h
        · rename_i b hb
          have hv : a.eval x = .bool b := (hb ▸ hs.opd x).bool_inv
          refine wp_cond hv ?_
          cases b with
          | true => exact ih (.code y :: k) st (h.1 rfl) g a w hs hf
          | false => exact ih (.code z :: k) st (h.2 rfl) g a w hs hf
        · exact h.elim
      | ret => exact fun g a w hs hf => wp_ret (post_ret (h g a w hs hf).2 k)
      | exit id =>
        intro g a w hs hf
        simp only [evT] at h
        split at h
        · rename_i k' hk'
          exact wp_exit (post_exit hk' (ih k' st h g a w hs hf))
        · exact h.elim
      | region id ops draw =>
        cases draw with
        | true => exact h
        | false =>
          simp only [evT] at h
          cases hcut : c.cf.cut id with
          | true => rw [hcut] at h; exact h
          | false =>
          rw [hcut] at h
          intro g a w hs hf
          refine wp_region ?_
          have := ih (.ops ops.toList 0 ops :: k) st h g a w hs hf rfl
          rw [List.range_eq_range']
          simpa using this
      | _ => exact h.elim
    | ops l i all =>
      cases l with
      | nil => exact fun g a w hs hf _ => ih k st h g a w hs hf
      | cons o l =>
        intro g a w hs hf hdrop
        simp only [evT] at h
        split at h
        · rename_i hg
          exact hop st o l i all h g a w hs hf hdrop (by simp [Region.wanted, hg])
        · rename_i j want hg
          split at h
          · rename_i t ht
            split at h
            · rename_i b hb
              have hy := yielded_of hs ht hb
              cases hd : okDst c.cf.N o.dst with
              | false => rw [hd] at h; exact h.elim
              | true =>
              rw [hd] at h
              simp only [cond_true] at h
              cases want with
              | true =>
                cases b with
                | true => exact hop _ o l i all (h.1 rfl) g a w (hs.set_same hb) hf hdrop (by simp [Region.wanted, hg, hy])
                | false => exact hskip _ o l i all hd (h.2 rfl) g a w (hs.set_same hb) hf hdrop (by simp [Region.wanted, hg, hy])
              | false =>
                cases b with
                | true => exact hskip _ o l i all hd (h.1 rfl) g a w (hs.set_same hb) hf hdrop (by simp [Region.wanted, hg, hy])
                | false => exact hop _ o l i all (h.2 rfl) g a w (hs.set_same hb) hf hdrop (by simp [Region.wanted, hg, hy])
            · rename_i xs hb
              cases xs with
              | cons x xs => simp only [List.isEmpty_cons, Bool.and_false, cond_false] at h; exact h.elim
              | nil =>
              have hy := yielded_not hs ht hb
              cases hd : okDst c.cf.N o.dst with
              | false => rw [hd] at h; exact h.elim
              | true =>
              rw [hd] at h
              simp only [List.isEmpty_nil, Bool.and_true, cond_true] at h
              exact hskip _ o l i all hd h g a w hs hf hdrop (by simp [Region.wanted, hg, hy])
            · exact h.elim
          · exact h.elim
end
end Go.EV
namespace Go.EV
open Go Go.RowKit
set_option linter.unusedSimpArgs false
set_option linter.unusedVariables false

/-! ### what a function does -/
/-- The function f, with these arguments and objects, answers v, and has these objects then. -/
def Ct (P : Program) (B : Bs) (f : FuncId) (args : List AV) (L : Obs) (v : AV) (L' : Obs) : Prop :=
  ∀ (g : G) (w : World) (vs : Array Value), vs.size = args.length → (∀ i, i < args.length → R g (szf L) w (args.getD i .bad) (vs.getD i undef)) → OR g L w → B.p g w →
    Ent P f vs w fun u w' => ∃ g', R g' (szf L') w' v u ∧ OR g' L' w' ∧ Fr g w g' w' ∧ Kp g L g' L'

/-! ### lists of slots and objects -/
def ofT : List (Nat × AV) → Nat → AV
  | [], _ => .bad
  | (j, v) :: r, i => bif Nat.beq i j then v else ofT r i
def ofL : List (Nat × Ob) → Obs
  | [], _ => none
  | (j, v) :: r, i => bif Nat.beq i j then some v else ofL r i

/-- x tells at least what y tells. -/
def Le (x y : AV) : Prop := ∀ (g : G) (sz : Nat → Nat) (w : World) (v : Value), R g sz w x v → R g sz w y v
theorem Le.refl (x : AV) : Le x x := fun _ _ _ _ h => h
theorem Le.bad (x : AV) : Le x .bad := fun _ _ _ _ _ => R.bad _
theorem Le.trans {x y z : AV} (h : Le x y) (k : Le y z) : Le x z := fun g sz w v r => k g sz w v (h g sz w v r)

def FLe (x y : AV) : Prop := ∀ (S : Nat → Prop) (w : World) (v : Value), F S w x v → F S w y v
theorem FLe.refl (x : AV) : FLe x x := fun _ _ _ h => h
theorem Le.of_F {x y : AV} (hx : ∀ g sz w v, R g sz w x v → F g.S w x v) (h : FLe x y) : Le x y := fun g sz w v r => .fz _ _ (h g.S w v (hx g sz w v r))

theorem Le.sl {n w' : Nat} {f f' : Nat → Nat → AV} (h : ∀ i j, i < n → j < w' → FLe (f i j) (f' i j)) : Le (.sl n w' f) (.sl n w' f') := by
  intro g sz w v r
  have r := r.sl_inv
  refine .fz _ _ ?_
  cases r with
  | sl0 _ _ a cap => exact .sl0 _ _ _ _
  | sl _ _ _ b o cap c hS hn hc hf h1 => exact .sl _ _ _ b o cap c hS hn hc (fun i j hi hj => h i j hi hj _ _ _ (hf i j hi hj)) h1
theorem Le.sl_eq {n n' w' : Nat} {f f' : Nat → Nat → AV} (hn : n = n') (h : ∀ i j, i < n → j < w' → f i j = f' i j) : Le (.sl n w' f) (.sl n' w' f') := by
  subst hn; exact Le.sl fun i j hi hj => by rw [h i j hi hj]; exact FLe.refl _
theorem Le.nil (w' : Nat) (f : Nat → Nat → AV) : Le (.v (.slice none 0 0)) (.sl 0 w' f) := fun g sz w v r => by
  obtain rfl := r.v_inv; exact .fz _ _ (.sl0 _ _ _ _)
theorem Le.fp {w' : Nat} {f f' : Nat → AV} (h : ∀ j, j < w' → FLe (f j) (f' j)) : Le (.fp w' f) (.fp w' f') := by
  intro g sz w v r
  have r := r.fp_inv
  refine .fz _ _ ?_
  cases r with
  | fp _ _ b o c hS hc hf h1 => exact .fp _ _ b o c hS hc (fun j hj => h j hj _ _ _ (hf j hj)) h1

inductive LeL : List AV → List AV → Prop
  | nil : LeL [] []
  | cons {x y : AV} {xs ys : List AV} (h : Le x y) (t : LeL xs ys) : LeL (x :: xs) (y :: ys)
theorem LeL.refl : ∀ xs, LeL xs xs
  | [] => .nil
  | x :: xs => .cons (.refl x) (.refl xs)
theorem LeL.len {xs ys : List AV} (h : LeL xs ys) : xs.length = ys.length := by induction h with | nil => rfl | cons _ _ ih => simp [ih]
theorem LeL.get {xs ys : List AV} (h : LeL xs ys) (i : Nat) : Le (xs.getD i .bad) (ys.getD i .bad) := by
  induction h generalizing i with
  | nil => exact Le.refl _
  | cons h _ ih => cases i with
    | zero => exact h
    | succ i => simpa [List.getD] using ih i
theorem Le.agg {xs ys : List AV} (h : LeL xs ys) : Le (.agg xs) (.agg ys) := by
  intro g sz w v r
  obtain ⟨cs, rfl, hl, hr⟩ := r.agg_inv
  exact .agg _ _ (by rw [hl, h.len]) fun i hi => h.get i _ _ _ _ (hr i (by rw [h.len]; exact hi))
theorem Le.tup {xs ys : List AV} (h : LeL xs ys) : Le (.tup xs) (.tup ys) := by
  intro g sz w v r
  obtain ⟨cs, rfl, hl, hr⟩ := r.tup_inv
  exact .tup _ _ (by rw [hl, h.len]) fun i hi => h.get i _ _ _ _ (hr i (by rw [h.len]; exact hi))

def LeO (x y : Ob) : Prop := szOf (some x) = szOf (some y) ∧ ∀ (g : G) (sz : Nat → Nat) (w : World) (s : Nat), ObR g sz w s x → ObR g sz w s y
theorem LeO.refl (x : Ob) : LeO x x := ⟨rfl, fun _ _ _ _ h => h⟩
theorem LeO.box {xs ys : List AV} (h : LeL xs ys) : LeO (.box xs) (.box ys) := by
  refine ⟨h.len, fun g sz w s r => ?_⟩
  obtain ⟨b, κ, cs, T, h1, h2, h3, h4⟩ := r
  exact ⟨b, κ, cs, T, h1, h2, by rw [h3, h.len], fun i hi => h.get i _ _ _ _ (h4 i (by rw [h.len]; exact hi))⟩
theorem LeO.buf {n n' w' : Nat} {f f' : Nat → Nat → AV} (hn : n = n') (h : ∀ i j, i < n → j < w' → f i j = f' i j) : LeO (.buf n w' f) (.buf n' w' f') := by
  subst hn
  refine ⟨rfl, fun g sz w s r => ?_⟩
  rcases r with r | ⟨b, κ, cs, T, h1, h2, h3, h4, h5⟩
  · exact .inl r
  · exact .inr ⟨b, κ, cs, T, h1, h2, h3, h4, fun i j hi hj => by rw [← h i j hi hj]; exact h5 i j hi hj⟩

/-! ### which objects a value names -/
mutual
def cl (D : Nat → Bool) : AV → Bool
  | .ref s _ _ _ _ => D s
  | .osl s _ _ _ _ => D s
  | .omap s => D s
  | .agg xs => clL D xs
  | .tup xs => clL D xs
  | .fn _ xs => clL D xs
  | _ => true
def clL (D : Nat → Bool) : List AV → Bool
  | [] => true
  | x :: xs => cl D x && clL D xs
end

theorem clL_get {D : Nat → Bool} : ∀ {xs : List AV}, clL D xs = true → ∀ i, cl D (xs.getD i .bad) = true
  | [], _, i => by simp [List.getD, cl]
  | x :: xs, h, i => by
    simp only [clL, Bool.and_eq_true] at h
    cases i with
    | zero => simpa [List.getD] using h.1
    | succ i => have := clL_get h.2 i; simpa [List.getD] using this

def clO (D : Nat → Bool) : Ob → Bool
  | .box xs => clL D xs
  | .buf _ _ _ => true
  | .mp _ _ => true
  | .it _ _ => true
  | .bx _ h _ _ => D h
  | .bb _ _ _ => true
  | .mit m _ _ _ => D m

theorem R.restrict {g : G} {sz : Nat → Nat} {w : World} {g' : G} {sz' : Nat → Nat} {D : Nat → Bool} (hS : ∀ b, g.S b → g'.S b) (hD : ∀ s, D s = true → g'.β s = g.β s ∧ sz' s = sz s) {x : AV} {v : Value}
    (h : R g sz w x v) (hc : cl D x = true) : R g' sz' w x v := by
  induction h with
  | fz x v h => exact .fz _ _ (h.mono hS fun _ _ _ => rfl)
  | agg xs cs hl _ ih => exact .agg _ _ hl fun i hi => ih i hi (clL_get (by simpa [cl] using hc) i)
  | tup xs cs hl _ ih => exact .tup _ _ hl fun i hi => ih i hi (clL_get (by simpa [cl] using hc) i)
  | fn f xs cs hl _ ih => exact .fn _ _ _ hl fun i hi => ih i hi (clL_get (by simpa [cl] using hc) i)
  | refs s w' i off ep x h hx => obtain ⟨h1, h2⟩ := hD s (by simpa [cl] using hc); exact .refs _ _ _ _ _ _ (by rw [h2]; exact h) hx
  | ref s w' i off ep b κ he h => obtain ⟨h1, h2⟩ := hD s (by simpa [cl] using hc); exact .ref _ _ _ _ _ b κ (by rw [h2]; exact he) (by rw [h1]; exact h)
  | osls s w' off len cap x h hx => obtain ⟨h1, h2⟩ := hD s (by simpa [cl] using hc); exact .osls _ _ _ _ _ _ (by rw [h2]; exact h) hx
  | osl0 s w' a h => obtain ⟨h1, h2⟩ := hD s (by simpa [cl] using hc); exact .osl0 _ _ _ (by rw [h2]; exact h)
  | osl s w' off len cap b κ h he hl hκ hc' => obtain ⟨h1, h2⟩ := hD s (by simpa [cl] using hc); exact .osl _ _ _ _ _ b κ (by rw [h1]; exact h) (by rw [h2]; exact he) hl (by rw [h2]; exact hκ) hc'
  | omaps s x h hx => obtain ⟨h1, h2⟩ := hD s (by simpa [cl] using hc); exact .omaps _ _ (by rw [h2]; exact h) hx
  | omap s b κ he h => obtain ⟨h1, h2⟩ := hD s (by simpa [cl] using hc); exact .omap _ b κ (by rw [h2]; exact he) (by rw [h1]; exact h)

theorem ObR.restrict {g : G} {sz : Nat → Nat} {w : World} {g' : G} {sz' : Nat → Nat} {D : Nat → Bool} (hS : ∀ b, g.S b → g'.S b) (hD : ∀ s, D s = true → g'.β s = g.β s ∧ sz' s = sz s) {s : Nat} {o : Ob}
    (h : ObR g sz w s o) (hs : D s = true) (hc : clO D o = true) : ObR g' sz' w s o := by
  have hβ := (hD s hs).1
  cases o with
  | box xs =>
    obtain ⟨b, κ, cs, T, h1, h2, h3, h4⟩ := h
    exact ⟨b, κ, cs, T, hβ.trans h1, h2, h3, fun i hi => (h4 i hi).restrict hS hD (clL_get hc i)⟩
  | buf n w1 f =>
    rcases h with h | ⟨b, κ, cs, T, h1, h2, h3, h4, h5⟩
    · exact .inl h
    · exact .inr ⟨b, κ, cs, T, hβ.trans h1, h2, h3, h4, fun i j hi hj => ⟨(h5 i j hi hj).1.mono hS fun _ _ _ => rfl, (h5 i j hi hj).2⟩⟩
  | mp ks f =>
    obtain ⟨b, κ, ms, h1, h2, h3, h4⟩ := h
    exact ⟨b, κ, ms, hβ.trans h1, h2, h3, fun i hi => ⟨(h4 i hi).1, (h4 i hi).2.1.mono hS fun _ _ _ => rfl, (h4 i hi).2.2⟩⟩
  | it t p =>
    obtain ⟨b, κ, h1, h2⟩ := h
    exact ⟨b, κ, hβ.trans h1, h2⟩
  | bx T k n l =>
    obtain ⟨b, κ, p, v, h1, h2, h3, h4⟩ := h
    exact ⟨b, κ, p, v, hβ.trans h1, h2, h3, h4.same (hD k hc).1 (hD k hc).2⟩
  | bb T n t =>
    rcases h with h | ⟨b, κ, cur, fz, h1, h2, h3⟩
    · exact .inl h
    · exact .inr ⟨b, κ, cur, fz, hβ.trans h1, h2, h3⟩
  | mit m0 n rem cur =>
    obtain ⟨b, κ, bo, seen, h1, h2, h3, h4⟩ := h
    obtain ⟨d1, d2⟩ := hD m0 hc
    exact ⟨b, κ, bo, seen, hβ.trans h1, h2, by rw [d1, d2]; exact h3, h4⟩

/-- Objects are forgotten. -/
def G.only (g : G) (D : Nat → Bool) : G := ⟨g.S, fun s => bif D s then g.β s else none⟩

theorem only_eq {g : G} {D : Nat → Bool} {s : Nat} (h : D s = true) : (g.only D).β s = g.β s := by simp [G.only, h]
theorem only_some {g : G} {D : Nat → Bool} {s : Nat} {x : Nat × Nat} (h : (g.only D).β s = some x) : D s = true ∧ g.β s = some x := by
  unfold G.only at h
  cases hd : D s with
  | true => simp only [hd, cond_true] at h; exact ⟨rfl, h⟩
  | false => simp only [hd, cond_false] at h; cases h

theorem OR.only {g : G} {L L' : Obs} {w : World} (hO : OR g L w) (hL : ∀ s o, L' s = some o → ∃ o1, L s = some o1 ∧ LeO o1 o) (hc : ∀ s o, L' s = some o → clO (fun s => (L' s).isSome) o = true) :
    OR (g.only fun s => (L' s).isSome) L' w := by
  have hsz : ∀ s, (L' s).isSome = true → szf L' s = szf L s := by
    intro s hs
    cases e : L' s with
    | none => rw [e] at hs; cases hs
    | some o =>
      obtain ⟨o1, h1, h2⟩ := hL s o e
      simp [szf, e, h1, h2.1]
  have hD : ∀ s, (L' s).isSome = true → (g.only fun s => (L' s).isSome).β s = g.β s ∧ szf L' s = szf L s := fun s hs => ⟨only_eq (D := fun s => (L' s).isSome) hs, hsz s hs⟩
  refine ⟨fun s o ho => ?_, fun s b κ h => ?_, fun s s' b κ κ' h h' => ?_, hO.fz⟩
  · obtain ⟨o1, h1, h2⟩ := hL s o ho
    exact ObR.restrict (g := g) (g' := g.only fun s => (L' s).isSome) (D := fun s => (L' s).isSome) (fun _ h => h) hD (h2.2 _ _ _ _ (hO.ob s o1 h1)) (by rw [ho]; rfl) (hc s o ho)
  · obtain ⟨h1, h2⟩ := only_some h
    exact ⟨h1, (hO.own s b κ h2).2⟩
  · exact hO.inj s s' b κ κ' (only_some h).2 (only_some h').2

theorem Fr.only {g : G} {w : World} {g' : G} {w' : World} (h : Fr g w g' w') (D : Nat → Bool) : Fr g w (g'.only D) w' :=
  ⟨h.os, h.tape, h.out, h.size, h.heap, h.S, h.S', fun b ⟨s, κ, e⟩ => h.own b ⟨s, κ, (only_some e).2⟩⟩

/-- Every slot and object of a pattern is there. -/
def HasT (t : Nat → AV) : List (Nat × AV) → Prop
  | [] => True
  | (i, v) :: r => Le (t i) v ∧ HasT t r
def HasL (L : Obs) : List (Nat × Ob) → Prop
  | [] => True
  | (s, o) :: r => (∃ o1, L s = some o1 ∧ LeO o1 o) ∧ HasL L r

theorem HasT.get {t : Nat → AV} : ∀ {T : List (Nat × AV)}, HasT t T → ∀ i, Le (t i) (ofT T i)
  | [], _, i => Le.bad _
  | (j, v) :: r, h, i => by
    unfold ofT
    by_cases e : i = j
    · subst e; rw [beq_self]; exact h.1
    · rw [beq_ne e]; exact HasT.get h.2 i
theorem HasL.get {L : Obs} : ∀ {T : List (Nat × Ob)}, HasL L T → ∀ s o, ofL T s = some o → ∃ o1, L s = some o1 ∧ LeO o1 o
  | [], _, s, o, h => by cases h
  | (j, v) :: r, h, s, o, ho => by
    unfold ofL at ho
    by_cases e : s = j
    · subst e; rw [beq_self] at ho; cases ho; exact h.1
    · rw [beq_ne e] at ho; exact HasL.get h.2 s o ho

def domB (T : List (Nat × Ob)) : Nat → Bool := fun s => (ofL T s).isSome
def clTs (D : Nat → Bool) : List (Nat × AV) → Bool
  | [] => true
  | (_, v) :: r => cl D v && clTs D r
def clOs (D : Nat → Bool) : List (Nat × Ob) → Bool
  | [] => true
  | (_, v) :: r => clO D v && clOs D r
theorem clTs_get {D : Nat → Bool} : ∀ {T : List (Nat × AV)}, clTs D T = true → ∀ i, cl D (ofT T i) = true
  | [], _, i => rfl
  | (j, v) :: r, h, i => by
    simp only [clTs, Bool.and_eq_true] at h
    unfold ofT
    cases Nat.beq i j with
    | true => exact h.1
    | false => exact clTs_get h.2 i
theorem clOs_get {D : Nat → Bool} : ∀ {T : List (Nat × Ob)}, clOs D T = true → ∀ s o, ofL T s = some o → clO D o = true
  | [], _, s, o, h => by cases h
  | (j, v) :: r, h, s, o, ho => by
    simp only [clOs, Bool.and_eq_true] at h
    unfold ofL at ho
    cases e : Nat.beq s j with
    | true => rw [e] at ho; cases ho; exact h.1
    | false => rw [e] at ho; exact clOs_get h.2 s o ho

theorem only_kp {g : G} {L : Obs} {g' : G} {L' L'' : Obs} (h : Kp g L g' L') (hd : ∀ s, (L s).isSome = true → (L'' s).isSome = true) (hsz : ∀ s, (L'' s).isSome = true → szf L'' s = szf L' s) : Kp g L (g'.only fun s => (L'' s).isSome) L'' := by
  intro s hs
  obtain ⟨h1, h2⟩ := h s hs
  have h3 := hd s hs
  refine ⟨h3, ?_⟩
  rw [hsz s h3, only_eq (D := fun s => (L'' s).isSome) h3]
  exact h2

/-- What is known may be told with less. -/
theorem Gd.weak {c : Cx} {k : List It} {st : St} (T : List (Nat × AV)) (T' : List (Nat × Ob)) (hT : HasT st.t T) (hL : HasL st.L T') (hc : (clTs (domB T') T && clOs (domB T') T') = true)
    (h0 : ∀ s, (c.L0 s).isSome = true → domB T' s = true) (h : Gd c k ⟨ofT T, ofL T'⟩) : Gd c k st := by
  intro g a w hs hf
  simp only [Bool.and_eq_true] at hc
  have hL' := hL.get
  have hsz : ∀ s, (ofL T' s).isSome = true → szf (ofL T') s = szf st.L s := by
    intro s hs
    cases e : ofL T' s with
    | none => rw [e] at hs; cases hs
    | some o => obtain ⟨o1, h1, h2⟩ := hL' s o e; simp [szf, e, h1, h2.1]
  refine h (g.only fun s => (ofL T' s).isSome) a w ⟨hs.nt, hs.df, fun i => ?_, hs.o.only hL' (clOs_get hc.2)⟩ ⟨hf.f.only _, only_kp hf.k h0 hsz⟩
  exact R.restrict (g := g) (g' := g.only fun s => (ofL T' s).isSome) (D := fun s => (ofL T' s).isSome) (fun _ h => h) (fun s hs' => ⟨only_eq (D := fun s => (ofL T' s).isSome) hs', hsz s hs'⟩) (hT.get i _ _ _ _ (hs.tm i)) (clTs_get hc.1 i)
end Go.EV
namespace Go.EV
open Go Go.RowKit
set_option linter.unusedSimpArgs false
set_option linter.unusedVariables false

/-! ### results -/
def resV (τ : Ty) (st : St) : ResultVar → Option AV
  | .tmp t => some (st.t t)
  | .cell ad ty => match loadE τ st.L ty (st.t ad) with
    | .val v _ => some v
    | _ => none
def resL (τ : Ty) (st : St) : List ResultVar → Option (List AV)
  | [] => some []
  | r :: rs => match resV τ st r, resL τ st rs with
    | some x, some xs => some (x :: xs)
    | _, _ => none
def mkRes : List AV → AV
  | [x] => x
  | xs => .tup xs

def resS (tmps : Array Value) : ResultVar → Sem Value
  | .tmp t => pure (tmps.getD t undef)
  | .cell ad t => do loadVar t (← asAddr (tmps.getD ad undef))
theorem results_eq (fn : Func) (tmps : Array Value) : results fn tmps = (do let vs ← fn.results.mapM (resS tmps); pure (if h : vs.size = 1 then vs[0] else .tuple vs)) := by
  unfold results
  congr 1

section
variable {P : Program} {g : G} {N : Nat} {st : St} {a : Act} {w : World}

theorem loadAt_asAddr {t : TypeId} {x u : Value} (h : (Instr.loadAt t x).run P w = .ok u w) : (do loadVar t (← asAddr x) : Sem Value).run P w = .ok u w := by
  cases x with
  | pointer p => cases p with
    | some p => exact h
    | none => simp [Instr.loadAt, Instr.sureAddr] at h
  | _ => simp [Instr.loadAt, Instr.sureAddr] at h

theorem resV_run (hs : SR g N st a w) {τ : Ty} (hτ : TyOK P τ) {r : ResultVar} {x : AV} (h : resV τ st r = some x) :
    ∃ u, (resS a.tmps r).run P w = .ok u w ∧ R g (szf st.L) w x u := by
  cases r with
  | tmp t => cases h; exact ⟨_, rfl, hs.tm t⟩
  | cell ad ty =>
    simp only [resV] at h
    split at h
    · rename_i v e hv
      cases h
      obtain ⟨rfl, u, h1, h2⟩ := loadE_ok hs.o hτ (hs.tm ad) (v := x) (e := e) (t := ty) (by rw [hv]; exact ⟨rfl, rfl⟩)
      exact ⟨u, loadAt_asAddr h1, h2⟩
    · cases h

theorem resL_run (hs : SR g N st a w) {τ : Ty} (hτ : TyOK P τ) : ∀ {rs : List ResultVar} {xs : List AV}, resL τ st rs = some xs →
    ∃ us : List Value, (rs.mapM (resS a.tmps)).run P w = .ok us w ∧
      us.length = xs.length ∧ ∀ i, i < xs.length → R g (szf st.L) w (xs.getD i .bad) (us.getD i undef)
  | [], xs, h => by simp only [resL, Option.some.injEq] at h; subst h; exact ⟨[], rfl, rfl, fun i hi => absurd hi (by simp)⟩
  | r :: rs, xs, h => by
    simp only [resL] at h
    split at h
    · rename_i x xs' h1 h2
      cases h
      obtain ⟨u, e1, e2⟩ := resV_run hs hτ h1
      obtain ⟨us, e3, e4, e5⟩ := resL_run hs hτ h2
      refine ⟨u :: us, ?_, by simp [e4], fun i hi => ?_⟩
      · simp only [List.mapM_cons, Sem.run_bind, e1, Result.andThen_ok, e3, Sem.run_pure]
      · cases i with
        | zero => simpa [List.getD] using e2
        | succ i => have := e5 i (by simpa using hi); simpa [List.getD] using this
    · cases h

theorem results_run (hs : SR g N st a w) {τ : Ty} (hτ : TyOK P τ) {fn : Func} {xs : List AV} (h : resL τ st fn.results.toList = some xs) : ∃ u, (results fn a.tmps).run P w = .ok u w ∧ R g (szf st.L) w (mkRes xs) u := by
  obtain ⟨us, h1, h2, h3⟩ := resL_run hs hτ h
  have hm : (fn.results.mapM (resS a.tmps)).run P w = .ok us.toArray w := by
    rw [Array.mapM_eq_mapM_toList, Sem.run_map, h1]; rfl
  refine ⟨if h : us.toArray.size = 1 then us.toArray[0] else .tuple us.toArray, ?_, ?_⟩
  · rw [results_eq, Sem.run_bind, hm]; rfl
  · match xs, us, h2, h3 with
    | [x], [u], _, h3 => simpa [mkRes, List.getD] using h3 0 (by simp)
    | [], [], _, _ => exact .tup _ _ rfl fun i hi => absurd hi (by simp)
    | x :: y :: xs, u :: u' :: us, h2, h3 =>
      have : ¬ ((u :: u' :: us).toArray.size = 1) := by simp
      rw [dif_neg this]
      exact .tup _ _ (by simpa using h2) fun i hi => by
        have := h3 i hi
        simpa [List.getD, Array.getD_eq_getD_getElem?] using this
end

/-! ### a function's body -/
/-- Where a frame begins. -/
structure W0 (B : Bs) where
  g0 : G
  w0 : World
  b0 : B.p g0 w0

structure Sp where
  P : Program
  cf : Cf
  fn : Func
  L0 : List (Nat × Ob)
  v : AV
  L' : List (Nat × Ob)
  bs : Bs

def Sp.cx (X : Sp) (z : W0 X.bs) : Cx :=
  ⟨X.P, X.cf, bodyPost X.P X.fn fun e w' => ∃ u, e = .returned u ∧ ∃ g', R g' (szf (ofL X.L')) w' X.v u ∧ OR g' (ofL X.L') w' ∧ Fr z.g0 z.w0 g' w' ∧ Kp z.g0 (ofL X.L0) g' (ofL X.L'), z.g0, ofL X.L0, z.w0, X.bs, z.b0⟩

def Rn (X : Sp) (k : List It) (st : St) : Prop := ∀ z : W0 X.bs, Gd (X.cx z) k st
def RnT (X : Sp) (t : Tree) : Prop := ∀ z : W0 X.bs, t.Gd (X.cx z)

theorem Rn.run {X : Sp} (hτ : TyOK X.P X.cf.τ) (n : Nat) {k : List It} {st : St} {t : Tree} (h : evT X.cf n k st = t) (ht : RnT X t) : Rn X k st :=
  fun z => evT_ok hτ n k st (h ▸ ht z)
theorem RnT.br {X : Sp} {b : Bool} {t e : Tree} (h1 : b = true → RnT X t) (h2 : b = false → RnT X e) : RnT X (.br b t e) := fun z => ⟨fun h => h1 h z, fun h => h2 h z⟩
theorem RnT.req {X : Sp} {p : Prop} {t : Tree} (h1 : p) (h2 : RnT X t) : RnT X (.req p t) := fun z => ⟨h1, h2 z⟩
theorem RnT.goto {X : Sp} {k : List It} {st : St} (h : Rn X k st) : RnT X (.goto k st) := fun z => h z

theorem RnT.done {X : Sp} (hτ : TyOK X.P X.cf.τ) {st : St} {xs : List AV} (hx : resL X.cf.τ st X.fn.results.toList = some xs) (hv : Le (mkRes xs) X.v) (hL : HasL st.L X.L')
    (hc : (cl (domB X.L') X.v && clOs (domB X.L') X.L') = true) (h0 : ∀ s, (ofL X.L0 s).isSome = true → domB X.L' s = true) : RnT X (.done st) := by
  intro z g a w hs hf
  simp only [Bool.and_eq_true] at hc
  obtain ⟨u, hr, hR⟩ := results_run hs hτ hx
  have hL' := hL.get
  have hsz : ∀ s, (ofL X.L' s).isSome = true → szf (ofL X.L') s = szf st.L s := by
    intro s hs
    cases e : ofL X.L' s with
    | none => rw [e] at hs; cases hs
    | some o => obtain ⟨o1, h1, h2⟩ := hL' s o e; simp [szf, e, h1, h2.1]
  have key : ∃ v, (results X.fn a.tmps).run X.P w = .ok v w ∧ ∃ u, Ending.returned v = .returned u ∧ ∃ g', R g' (szf (ofL X.L')) w X.v u ∧ OR g' (ofL X.L') w ∧ Fr z.g0 z.w0 g' w ∧ Kp z.g0 (ofL X.L0) g' (ofL X.L') :=
    ⟨u, hr, u, rfl, g.only fun s => (ofL X.L' s).isSome,
      R.restrict (g := g) (g' := g.only fun s => (ofL X.L' s).isSome) (D := fun s => (ofL X.L' s).isSome) (fun _ h => h) (fun s hs' => ⟨only_eq (D := fun s => (ofL X.L' s).isSome) hs', hsz s hs'⟩) (hv _ _ _ _ hR) hc.1,
      hs.o.only hL' (clOs_get hc.2), hf.f.only _, only_kp hf.k h0 hsz⟩
  exact ⟨⟨hs.df, key⟩, ⟨hs.df, key⟩⟩

theorem Ct.body {P : Program} {B : Bs} {f : FuncId} {args : List AV} {L L' : List (Nat × Ob)} {v : AV} {fn : Func} {code : Code} {τ : Ty} {own cut : Nat → Bool}
    (hfn : P.funcs[f]? = some fn) (hb : fn.body = some code) (hc : ∀ (vs : Array Value) (w : World), (callFunc f vs).run P w = .ok (.enter f vs) w) (hN : args.length ≤ fn.ntmps)
    (h : Rn ⟨P, ⟨τ, own, fn.ntmps, cut⟩, fn, L, v, L', B⟩ [.code code] ⟨fun i => args.getD i .bad, ofL L⟩) : Ct P B f args (ofL L) v (ofL L') := by
  intro g w vs hsz hr hO hB
  unfold Ent
  rw [hc]
  refine calls_of_wp hfn hb (h ⟨g, w, hB⟩ g _ w ⟨by show (vs ++ Array.replicate (fn.ntmps - vs.size) undef).size = fn.ntmps; simp [hsz]; omega, rfl, fun i => ?_, hO⟩ ⟨Fr.refl g w, Kp.refl _ _⟩)
  by_cases hi : i < args.length
  · have hi2 : i < vs.size := by omega
    have e : (vs ++ Array.replicate (fn.ntmps - vs.size) undef).getD i undef = vs.getD i undef := by
      simp only [Array.getD_eq_getD_getElem?, Array.getElem?_append_left hi2]
    show R g _ w (args.getD i .bad) ((vs ++ Array.replicate (fn.ntmps - vs.size) undef).getD i undef)
    rw [e]; exact hr i hi
  · show R g _ w (args.getD i .bad) _
    rw [show args.getD i .bad = .bad by simp [List.getD, List.getElem?_eq_none (Nat.le_of_not_lt hi)]]
    exact R.bad _
end Go.EV
namespace Go.EV
open Go Go.RowKit
set_option linter.unusedSimpArgs false
set_option linter.unusedVariables false

/-! ### other names for objects -/
mutual
def ren (σ : Nat → Nat) : AV → AV
  | .ref s w i off ep => .ref (σ s) w i off ep
  | .osl s w off len cap => .osl (σ s) w off len cap
  | .omap s => .omap (σ s)
  | .agg xs => .agg (renL σ xs)
  | .tup xs => .tup (renL σ xs)
  | .fn f xs => .fn f (renL σ xs)
  | .bad => .bad
  | .int k n => .int k n
  | .bool b => .bool b
  | .str s => .str s
  | .v x => .v x
  | .sl n w f => .sl n w f
  | .fp w f => .fp w f
def renL (σ : Nat → Nat) : List AV → List AV
  | [] => []
  | x :: xs => ren σ x :: renL σ xs
end
def renO (σ : Nat → Nat) : Ob → Ob
  | .box xs => .box (renL σ xs)
  | .buf n w f => .buf n w f
  | .mp ks f => .mp ks f
  | .it t p => .it t p
  | .bx T h m n => .bx T (σ h) m n
  | .bb T m t => .bb T m t
  | .mit m n rem cur => .mit (σ m) n rem cur

theorem renL_len (σ : Nat → Nat) : ∀ xs : List AV, (renL σ xs).length = xs.length
  | [] => by simp [renL]
  | x :: xs => by simp [renL, renL_len σ xs]
theorem renL_get (σ : Nat → Nat) : ∀ (xs : List AV) (i : Nat), (renL σ xs).getD i .bad = ren σ (xs.getD i .bad)
  | [], i => by simp [renL, List.getD, ren]
  | x :: xs, 0 => by simp [renL, List.getD]
  | x :: xs, i + 1 => by have := renL_get σ xs i; simpa [renL, List.getD] using this

section
variable {g g' : G} {sz sz' : Nat → Nat} {w : World} {σ : Nat → Nat} {D : Nat → Bool}

theorem R.ren (hS : ∀ b, g.S b → g'.S b) (hD : ∀ s, D s = true → g'.β (σ s) = g.β s ∧ sz' (σ s) = sz s) {x : AV} {v : Value} (h : R g sz w x v) (hc : cl D x = true) : R g' sz' w (Go.EV.ren σ x) v := by
  induction h with
  | fz x v h =>
    have h' := F.mono (w := w) (w' := w) hS (fun _ _ _ => rfl) h
    cases h <;> (simp only [Go.EV.ren, renL]; exact .fz _ _ h')
  | agg xs cs hl _ ih => simp only [Go.EV.ren]; exact .agg _ _ (by rw [renL_len, hl]) fun i hi => by rw [renL_get]; exact ih i (by rwa [renL_len] at hi) (clL_get (by simpa [cl] using hc) i)
  | tup xs cs hl _ ih => simp only [Go.EV.ren]; exact .tup _ _ (by rw [renL_len, hl]) fun i hi => by rw [renL_get]; exact ih i (by rwa [renL_len] at hi) (clL_get (by simpa [cl] using hc) i)
  | fn f xs cs hl _ ih => simp only [Go.EV.ren]; exact .fn _ _ _ (by rw [renL_len, hl]) fun i hi => by rw [renL_get]; exact ih i (by rwa [renL_len] at hi) (clL_get (by simpa [cl] using hc) i)
  | refs s w' i off ep x h hx => obtain ⟨h1, h2⟩ := hD s (by simpa [cl] using hc); simp only [Go.EV.ren]; exact .refs _ _ _ _ _ _ (by rw [h2]; exact h) hx
  | ref s w' i off ep b κ he h => obtain ⟨h1, h2⟩ := hD s (by simpa [cl] using hc); simp only [Go.EV.ren]; exact .ref _ _ _ _ _ b κ (by rw [h2]; exact he) (by rw [h1]; exact h)
  | osls s w' off len cap x h hx => obtain ⟨h1, h2⟩ := hD s (by simpa [cl] using hc); simp only [Go.EV.ren]; exact .osls _ _ _ _ _ _ (by rw [h2]; exact h) hx
  | osl0 s w' a h => obtain ⟨h1, h2⟩ := hD s (by simpa [cl] using hc); simp only [Go.EV.ren]; exact .osl0 _ _ _ (by rw [h2]; exact h)
  | osl s w' off len cap b κ h he hl hκ hc' => obtain ⟨h1, h2⟩ := hD s (by simpa [cl] using hc); simp only [Go.EV.ren]; exact .osl _ _ _ _ _ b κ (by rw [h1]; exact h) (by rw [h2]; exact he) hl (by rw [h2]; exact hκ) hc'
  | omaps s x h hx => obtain ⟨h1, h2⟩ := hD s (by simpa [cl] using hc); simp only [Go.EV.ren]; exact .omaps _ _ (by rw [h2]; exact h) hx
  | omap s b κ he h => obtain ⟨h1, h2⟩ := hD s (by simpa [cl] using hc); simp only [Go.EV.ren]; exact .omap _ b κ (by rw [h2]; exact he) (by rw [h1]; exact h)

theorem F.unren {S : Nat → Prop} {x : AV} {v : Value} (h : F S w (ren σ x) v) : F S w x v := by
  cases x <;> simp only [Go.EV.ren] at h <;> first
    | exact h
    | (cases h; done)
    | (rename_i f xs; cases xs with
        | nil => simpa only [renL] using h
        | cons y ys => simp only [renL] at h; cases h)

theorem R.unren (hS : ∀ b, g'.S b → g.S b) (hD : ∀ s, D s = true → g'.β (σ s) = g.β s ∧ sz' (σ s) = sz s) : ∀ {y : AV} {v : Value}, R g' sz' w y v → ∀ {x : AV}, y = Go.EV.ren σ x → cl D x = true → R g sz w x v := by
  intro y v h
  induction h with
  | fz y v h => intro x e hc; subst e; exact .fz _ _ (F.mono (w := w) (w' := w) hS (fun _ _ _ => rfl) h.unren)
  | agg xs cs hl _ ih =>
    intro x e hc
    cases x <;> simp only [Go.EV.ren] at e <;> try (cases e; done)
    rename_i ys
    cases e
    exact .agg _ _ (by rw [hl, renL_len]) fun i hi => ih i (by rwa [renL_len]) (renL_get σ ys i) (clL_get (by simpa [cl] using hc) i)
  | tup xs cs hl _ ih =>
    intro x e hc
    cases x <;> simp only [Go.EV.ren] at e <;> try (cases e; done)
    rename_i ys
    cases e
    exact .tup _ _ (by rw [hl, renL_len]) fun i hi => ih i (by rwa [renL_len]) (renL_get σ ys i) (clL_get (by simpa [cl] using hc) i)
  | fn f xs cs hl _ ih =>
    intro x e hc
    cases x <;> simp only [Go.EV.ren] at e <;> try (cases e; done)
    rename_i f' ys
    cases e
    exact .fn _ _ _ (by rw [hl, renL_len]) fun i hi => ih i (by rwa [renL_len]) (renL_get σ ys i) (clL_get (by simpa [cl] using hc) i)
  | refs s w' i off ep v h hx =>
    intro x e hc
    cases x <;> simp only [Go.EV.ren] at e <;> try (cases e; done)
    cases e
    exact .refs _ _ _ _ _ _ (by rw [← (hD _ (by simpa [cl] using hc)).2]; exact h) hx
  | ref s w' i off ep b κ he h =>
    intro x e hc
    cases x <;> simp only [Go.EV.ren] at e <;> try (cases e; done)
    cases e
    have hd := hD _ (by simpa [cl] using hc)
    exact .ref _ _ _ _ _ b κ (by rw [← hd.2]; exact he) (by rw [← hd.1]; exact h)
  | osls s w' off len cap v h hx =>
    intro x e hc
    cases x <;> simp only [Go.EV.ren] at e <;> try (cases e; done)
    cases e
    exact .osls _ _ _ _ _ _ (by rw [← (hD _ (by simpa [cl] using hc)).2]; exact h) hx
  | osl0 s w' a h =>
    intro x e hc
    cases x <;> simp only [Go.EV.ren] at e <;> try (cases e; done)
    cases e
    exact .osl0 _ _ _ (by rw [← (hD _ (by simpa [cl] using hc)).2]; exact h)
  | osl s w' off len cap b κ h he hl hκ hc' =>
    intro x e hc
    cases x <;> simp only [Go.EV.ren] at e <;> try (cases e; done)
    cases e
    have hd := hD _ (by simpa [cl] using hc)
    exact .osl _ _ _ _ _ b κ (by rw [← hd.1]; exact h) (by rw [← hd.2]; exact he) hl (by rw [← hd.2]; exact hκ) hc'
  | omaps s v h hx =>
    intro x e hc
    cases x <;> simp only [Go.EV.ren] at e <;> try (cases e; done)
    cases e
    exact .omaps _ _ (by rw [← (hD _ (by simpa [cl] using hc)).2]; exact h) hx
  | omap s b κ he h =>
    intro x e hc
    cases x <;> simp only [Go.EV.ren] at e <;> try (cases e; done)
    cases e
    have hd := hD _ (by simpa [cl] using hc)
    exact .omap _ b κ (by rw [← hd.2]; exact he) (by rw [← hd.1]; exact h)

theorem szOf_renO (o : Ob) : szOf (some (renO σ o)) = szOf (some o) := by cases o <;> simp [renO, szOf, renL_len]

theorem ObR.ren (hS : ∀ b, g.S b → g'.S b) (hD : ∀ s, D s = true → g'.β (σ s) = g.β s ∧ sz' (σ s) = sz s) {s : Nat} {o : Ob} (h : ObR g sz w s o) (hs : D s = true) (hc : clO D o = true) : ObR g' sz' w (σ s) (renO σ o) := by
  have hβ := (hD s hs).1
  cases o with
  | box xs =>
    obtain ⟨b, κ, cs, T, h1, h2, h3, h4⟩ := h
    exact ⟨b, κ, cs, T, hβ.trans h1, h2, by rw [renL_len, h3], fun i hi => by rw [renL_get]; exact (h4 i (by rwa [renL_len] at hi)).ren hS hD (clL_get hc i)⟩
  | buf n w1 f =>
    rcases h with h | ⟨b, κ, cs, T, h1, h2, h3, h4, h5⟩
    · exact .inl h
    · exact .inr ⟨b, κ, cs, T, hβ.trans h1, h2, h3, h4, fun i j hi hj => ⟨F.mono (w := w) (w' := w) hS (fun _ _ _ => rfl) (h5 i j hi hj).1, (h5 i j hi hj).2⟩⟩
  | mp ks f =>
    obtain ⟨b, κ, ms, h1, h2, h3, h4⟩ := h
    exact ⟨b, κ, ms, hβ.trans h1, h2, h3, fun i hi => ⟨(h4 i hi).1, F.mono (w := w) (w' := w) hS (fun _ _ _ => rfl) (h4 i hi).2.1, (h4 i hi).2.2⟩⟩
  | it t p =>
    obtain ⟨b, κ, h1, h2⟩ := h
    exact ⟨b, κ, hβ.trans h1, h2⟩
  | bx T k n l =>
    obtain ⟨b, κ, p, v, h1, h2, h3, h4⟩ := h
    exact ⟨b, κ, p, v, hβ.trans h1, h2, h3, h4.same (hD k hc).1 (hD k hc).2⟩
  | bb T n t =>
    rcases h with h | ⟨b, κ, cur, fz, h1, h2, h3⟩
    · exact .inl h
    · exact .inr ⟨b, κ, cur, fz, hβ.trans h1, h2, h3⟩
  | mit m0 n rem cur =>
    obtain ⟨b, κ, bo, seen, h1, h2, h3, h4⟩ := h
    obtain ⟨d1, d2⟩ := hD m0 hc
    exact ⟨b, κ, bo, seen, hβ.trans h1, h2, by rw [d1, d2]; exact h3, h4⟩

theorem ObR.unren (hS : ∀ b, g'.S b → g.S b) (hD : ∀ s, D s = true → g'.β (σ s) = g.β s ∧ sz' (σ s) = sz s) {s : Nat} {o : Ob} (h : ObR g' sz' w (σ s) (renO σ o)) (hs : D s = true) (hc : clO D o = true) : ObR g sz w s o := by
  have hβ := (hD s hs).1
  cases o with
  | box xs =>
    obtain ⟨b, κ, cs, T, h1, h2, h3, h4⟩ := h
    exact ⟨b, κ, cs, T, hβ.symm.trans h1, h2, by rw [h3, renL_len], fun i hi => R.unren hS hD (h4 i (by rwa [renL_len])) (renL_get σ xs i) (clL_get hc i)⟩
  | buf n w1 f =>
    rcases h with h | ⟨b, κ, cs, T, h1, h2, h3, h4, h5⟩
    · exact .inl h
    · exact .inr ⟨b, κ, cs, T, hβ.symm.trans h1, h2, h3, h4, fun i j hi hj => ⟨F.mono (w := w) (w' := w) hS (fun _ _ _ => rfl) (h5 i j hi hj).1, (h5 i j hi hj).2⟩⟩
  | mp ks f =>
    obtain ⟨b, κ, ms, h1, h2, h3, h4⟩ := h
    exact ⟨b, κ, ms, hβ.symm.trans h1, h2, h3, fun i hi => ⟨(h4 i hi).1, F.mono (w := w) (w' := w) hS (fun _ _ _ => rfl) (h4 i hi).2.1, (h4 i hi).2.2⟩⟩
  | it t p =>
    obtain ⟨b, κ, h1, h2⟩ := h
    exact ⟨b, κ, hβ.symm.trans h1, h2⟩
  | bx T k n l =>
    obtain ⟨b, κ, p, v, h1, h2, h3, h4⟩ := h
    exact ⟨b, κ, p, v, hβ.symm.trans h1, h2, h3, h4.same (hD k hc).1.symm (hD k hc).2.symm⟩
  | bb T n t =>
    rcases h with h | ⟨b, κ, cur, fz, h1, h2, h3⟩
    · exact .inl h
    · exact .inr ⟨b, κ, cur, fz, hβ.symm.trans h1, h2, h3⟩
  | mit m0 n rem cur =>
    obtain ⟨b, κ, bo, seen, h1, h2, h3, h4⟩ := h
    obtain ⟨d1, d2⟩ := hD m0 hc
    exact ⟨b, κ, bo, seen, hβ.symm.trans h1, h2, by rw [← d1, ← d2]; exact h3, h4⟩
end

/-! ### a call -/
def callL (L : Obs) (σ : Nat → Nat) : List (Nat × Ob) → Obs
  | [] => L
  | (s, o) :: r => upd1 (callL L σ r) (σ s) (some (renO σ o))
def inv (σ : Nat → Nat) : List (Nat × Ob) → Nat → Option Nat
  | [], _ => none
  | (s, _) :: r, i => bif Nat.beq i (σ s) then some s else inv σ r i
def objsOK (L : Obs) (σ : Nat → Nat) : List (Nat × Ob) → Prop
  | [] => True
  | (s, o) :: r => (∃ o1, L (σ s) = some o1 ∧ LeO o1 (renO σ o)) ∧ objsOK L σ r
def newOK (L : Obs) (σ : Nat → Nat) (D : Nat → Bool) : List (Nat × Ob) → Bool
  | [] => true
  | (s, _) :: r => (D s || (L (σ s)).isNone) && newOK L σ D r
def distinct (σ : Nat → Nat) : List (Nat × Ob) → Bool
  | [] => true
  | (s, _) :: r => (r.all fun p => !Nat.beq (σ s) (σ p.1)) && distinct σ r

theorem domB_mem {T : List (Nat × Ob)} {s : Nat} (h : domB T s = true) : ∃ p ∈ T, p.1 = s := by
  unfold domB at h
  induction T with
  | nil => cases h
  | cons p r ih =>
    obtain ⟨j, v⟩ := p
    unfold ofL at h
    by_cases e : s = j
    · exact ⟨_, List.mem_cons_self, e.symm⟩
    · rw [beq_ne e] at h
      obtain ⟨q, hq, e2⟩ := ih h
      exact ⟨q, List.mem_cons_of_mem _ hq, e2⟩

theorem distinct_inj {σ : Nat → Nat} : ∀ {T : List (Nat × Ob)}, distinct σ T = true → ∀ s s', domB T s = true → domB T s' = true → σ s = σ s' → s = s'
  | [], _, s, s', h, _, _ => by cases h
  | (j, v) :: r, h, s, s', hs, hs', e => by
    simp only [distinct, Bool.and_eq_true, List.all_eq_true] at h
    have rest : ∀ t, domB ((j, v) :: r) t = true → t ≠ j → domB r t = true := fun t ht hne => by
      unfold domB ofL at ht; rwa [beq_ne hne] at ht
    have no : ∀ t, domB r t = true → σ j ≠ σ t := fun t ht e => by
      obtain ⟨p, hp, rfl⟩ := domB_mem ht
      have := h.1 p hp
      rw [e, beq_self] at this; cases this
    by_cases e1 : s = j
    · by_cases e2 : s' = j
      · rw [e1, e2]
      · exact absurd (by rw [← e1]; exact e) (no s' (rest s' hs' e2))
    · by_cases e2 : s' = j
      · exact absurd (by rw [← e2]; exact e.symm) (no s (rest s hs e1))
      · exact distinct_inj h.2 s s' (rest s hs e1) (rest s' hs' e2) e

theorem inv_some {σ : Nat → Nat} : ∀ {T : List (Nat × Ob)} {i s : Nat}, inv σ T i = some s → domB T s = true ∧ σ s = i
  | (j, v) :: r, i, s, h => by
    unfold inv at h
    by_cases e : i = σ j
    · rw [e, beq_self] at h; cases h
      exact ⟨by simp [domB, ofL], e.symm⟩
    · rw [beq_ne e] at h
      obtain ⟨h1, h2⟩ := inv_some (T := r) h
      refine ⟨?_, h2⟩
      unfold domB ofL
      cases Nat.beq s j with
      | true => rfl
      | false => exact h1
theorem inv_dom {σ : Nat → Nat} : ∀ {T : List (Nat × Ob)} {s : Nat}, domB T s = true → ∃ s', inv σ T (σ s) = some s'
  | [], s, h => by cases h
  | (j, v) :: r, s, h => by
    unfold inv
    by_cases e : σ s = σ j
    · exact ⟨j, by rw [e, beq_self]; rfl⟩
    · rw [beq_ne e]
      refine inv_dom ?_
      unfold domB ofL at h
      rwa [beq_ne (fun e' => e (by rw [e']))] at h
theorem callL_none {L : Obs} {σ : Nat → Nat} : ∀ {T : List (Nat × Ob)} {i : Nat}, inv σ T i = none → callL L σ T i = L i
  | [], i, _ => rfl
  | (j, v) :: r, i, h => by
    unfold inv at h
    by_cases e : i = σ j
    · rw [e, beq_self] at h; cases h
    · rw [beq_ne e] at h
      unfold callL
      rw [upd1_ne _ _ e]; exact callL_none h
theorem callL_some {L : Obs} {σ : Nat → Nat} : ∀ {T : List (Nat × Ob)}, distinct σ T = true → ∀ {s : Nat} {o : Ob}, ofL T s = some o → callL L σ T (σ s) = some (renO σ o)
  | [], _, s, o, h => by cases h
  | (j, v) :: r, hd, s, o, h => by
    have hd' := hd
    simp only [distinct, Bool.and_eq_true] at hd'
    unfold callL
    unfold ofL at h
    by_cases e : s = j
    · subst e; rw [beq_self] at h; cases h; exact upd1_self _ _ _
    · rw [beq_ne e] at h
      have hne : σ s ≠ σ j := fun e2 => e (distinct_inj hd s j (by unfold domB ofL; rw [beq_ne e]; show (ofL r s).isSome = true; have h2 : ofL r s = some o := h; rw [h2]; rfl) (by simp [domB, ofL]) e2)
      rw [upd1_ne _ _ hne]; exact callL_some hd'.2 h
theorem objsOK_get {L : Obs} {σ : Nat → Nat} : ∀ {T : List (Nat × Ob)}, objsOK L σ T → ∀ s o, ofL T s = some o → ∃ o1, L (σ s) = some o1 ∧ LeO o1 (renO σ o)
  | [], _, s, o, h => by cases h
  | (j, v) :: r, h, s, o, ho => by
    unfold ofL at ho
    by_cases e : s = j
    · subst e; rw [beq_self] at ho; cases ho; exact h.1
    · rw [beq_ne e] at ho; exact objsOK_get h.2 s o ho
theorem newOK_get {L : Obs} {σ : Nat → Nat} {D : Nat → Bool} : ∀ {T : List (Nat × Ob)}, newOK L σ D T = true → ∀ s, domB T s = true → D s = false → L (σ s) = none
  | T, h, s, hs, hD => by
    obtain ⟨p, hp, rfl⟩ := domB_mem hs
    clear hs
    induction T with
    | nil => cases hp
    | cons q r ih =>
      obtain ⟨j, v⟩ := q
      simp only [newOK, Bool.and_eq_true] at h
      rcases List.mem_cons.1 hp with e | e
      · subst e
        rcases Bool.or_eq_true _ _ ▸ h.1 with h1 | h1
        · rw [hD] at h1; cases h1
        · simpa using h1
      · exact ih h.2 e

theorem Ent.mono {P : Program} {f : FuncId} {vs : Array Value} {w : World} {K K' : Value → World → Prop} (h : Ent P f vs w K) (hk : ∀ u w', K u w' → K' u w') : Ent P f vs w K' := by
  unfold Ent at h ⊢
  split
  · rename_i f' az w1 hc
    rw [hc] at h
    exact h.mono fun e w' ⟨u, he, hu⟩ => ⟨u, he, hk _ _ hu⟩
  · rename_i u w1 hc
    rw [hc] at h
    exact hk _ _ h
  · rename_i h1 h2
    split at h
    · rename_i f' az w1 hc; exact (h1 _ _ _ hc).elim
    · rename_i u w1 hc; exact (h2 _ _ hc).elim
    · exact h.elim
end Go.EV
namespace Go.EV
open Go Go.RowKit
set_option linter.unusedSimpArgs false
set_option linter.unusedVariables false

theorem okDst_lt {N : Nat} {d : Option Nat} (h : okDst N d = true) : ∀ i, d = some i → i < N := by
  rintro i rfl; exact Nat.blt_eq.mp h

def putO (t : Nat → AV) : Option Nat → AV → Nat → AV
  | some d, v => upd1 t d v
  | none, _ => t

/-- All that a call asks to be checked. -/
def callChk (N : Nat) (d : Option Nat) (L : Obs) (σ : Nat → Nat) (CL CL' : List (Nat × Ob)) (cargs : List AV) (v : AV) : Bool :=
  okDst N d && (clL (domB CL) cargs && clOs (domB CL) CL) && (cl (domB CL') v && clOs (domB CL') CL') && (distinct σ CL && distinct σ CL') && newOK L σ (domB CL) CL'

theorem call_core {c : Cx} {f : FuncId} {args : List AV} {st : St} {d : Option Nat} {CL CL' : List (Nat × Ob)} {cargs : List AV} {v : AV}
    (hct : Ct c.P c.bs f cargs (ofL CL) v (ofL CL')) (σ : Nat → Nat) (hargs : LeL args (renL σ cargs)) (hobj : objsOK st.L σ CL) (hchk : callChk c.cf.N d st.L σ CL CL' cargs v = true)
    {g : G} {a : Act} {w : World} (hs : SR g c.cf.N st a w) (hf : In c g st.L w) {vs : Array Value} (hvl : vs.size = args.length) (hvr : ∀ i, i < args.length → R g (szf st.L) w (args.getD i .bad) (vs.getD i undef)) :
    Ent c.P f vs w fun u w1 => ∃ g2, SR g2 c.cf.N ⟨putO st.t d (ren σ v), callL st.L σ CL'⟩ (a.put d u) w1 ∧ In c g2 (callL st.L σ CL') w1 := by
  unfold callChk at hchk
  simp only [Bool.and_eq_true] at hchk
  obtain ⟨⟨⟨⟨hd, hcl1, hcl2⟩, hcl3, hcl4⟩, hdi1, hdi2⟩, hnew⟩ := hchk
  have hO := hs.o
  let gc : G := ⟨g.S, fun s => bif domB CL s then g.β (σ s) else none⟩
  have gcs : ∀ {s x}, gc.β s = some x → domB CL s = true ∧ g.β (σ s) = some x := by
    intro s x h
    show _ ∧ _
    have h : (bif domB CL s then g.β (σ s) else none) = some x := h
    cases hd : domB CL s with
    | true => rw [hd] at h; exact ⟨rfl, h⟩
    | false => rw [hd] at h; cases h
  have hszc : ∀ s, domB CL s = true → szf st.L (σ s) = szf (ofL CL) s := by
    intro s hsd
    cases e : ofL CL s with
    | none => unfold domB at hsd; rw [e] at hsd; cases hsd
    | some o =>
      obtain ⟨o1, h1, h2⟩ := objsOK_get hobj s o e
      simp only [szf, e, h1, h2.1, szOf_renO]
  have hDc : ∀ s, domB CL s = true → g.β (σ s) = gc.β s ∧ szf st.L (σ s) = szf (ofL CL) s := fun s hsd => ⟨by show _ = (bif domB CL s then g.β (σ s) else none); rw [hsd]; rfl, hszc s hsd⟩
  have hOc : OR gc (ofL CL) w := by
    refine ⟨fun s o ho => ?_, fun s b κ h => ?_, fun s s' b κ κ' h h' => ?_, hO.fz⟩
    · obtain ⟨o1, h1, h2⟩ := objsOK_get hobj s o ho
      exact ObR.unren (g := gc) (g' := g) (D := domB CL) (fun _ h => h) hDc (h2.2 _ _ _ _ (hO.ob _ o1 h1)) (by unfold domB; rw [ho]; rfl) (clOs_get hcl2 s o ho)
    · obtain ⟨h1, h2⟩ := gcs h
      exact ⟨h1, (hO.own _ b κ h2).2⟩
    · obtain ⟨h1, h2⟩ := gcs h
      obtain ⟨h1', h2'⟩ := gcs h'
      exact distinct_inj hdi1 s s' h1 h1' (hO.inj _ _ b κ κ' h2 h2')
  have hlen := hargs.len
  rw [renL_len] at hlen
  have hE := hct gc w vs (by omega) (fun i hi => by
    have h1 := hargs.get i _ _ _ _ (hvr i (by omega))
    rw [renL_get] at h1
    exact R.unren (g := gc) (g' := g) (D := domB CL) (fun _ h => h) hDc h1 rfl (clL_get hcl1 i)) hOc (c.bs.mono (show Fr g w gc w from ⟨rfl, rfl, rfl, Nat.le_refl _, fun _ _ _ => rfl, fun _ h => h, fun _ h => .inl h, fun b ⟨s, κ, e⟩ => .inl ⟨_, κ, (gcs e).2⟩⟩) (c.bs.mono hf.f c.b0))
  refine hE.mono fun u w1 hK => ?_
  obtain ⟨g1, hR1, hO1, hF1, hK1⟩ := hK
  have hDD : ∀ s, domB CL s = true → domB CL' s = true := fun s hsd => (hK1 s hsd).1
  let g2 : G := ⟨g1.S, fun i => match inv σ CL' i with | some s => g1.β s | none => g.β i⟩
  have g2s : ∀ {i s}, inv σ CL' i = some s → g2.β i = g1.β s := fun {i s} h => by show (match inv σ CL' i with | some s => g1.β s | none => g.β i) = _; rw [h]
  have g2n : ∀ {i}, inv σ CL' i = none → g2.β i = g.β i := fun {i} h => by show (match inv σ CL' i with | some s => g1.β s | none => g.β i) = _; rw [h]
  have invσ : ∀ s, domB CL' s = true → inv σ CL' (σ s) = some s := by
    intro s hsd
    obtain ⟨s', h'⟩ := inv_dom (σ := σ) hsd
    obtain ⟨h1, h2⟩ := inv_some h'
    rw [h', distinct_inj hdi2 s' s h1 hsd h2]
  have L2s : ∀ {i s}, inv σ CL' i = some s → ∃ o, ofL CL' s = some o ∧ callL st.L σ CL' i = some (renO σ o) := by
    intro i s h
    obtain ⟨h1, rfl⟩ := inv_some h
    cases e : ofL CL' s with
    | none => unfold domB at h1; rw [e] at h1; cases h1
    | some o => exact ⟨o, rfl, callL_some hdi2 e⟩
  have sz2s : ∀ {i s}, inv σ CL' i = some s → szf (callL st.L σ CL') i = szf (ofL CL') s := by
    intro i s h
    obtain ⟨o, h1, h2⟩ := L2s h
    simp only [szf, h1, h2, szOf_renO]
  have sz2n : ∀ {i}, inv σ CL' i = none → szf (callL st.L σ CL') i = szf st.L i := fun {i} h => by simp only [szf, callL_none h]
  have notc : ∀ {i b κ}, inv σ CL' i = none → g.β i = some (b, κ) → ¬ gc.own b := by
    rintro i b κ h hb ⟨s, κ', e⟩
    obtain ⟨h1, h2⟩ := gcs e
    have := hO.inj _ _ b κ' κ h2 hb
    rw [← this, invσ s (hDD s h1)] at h; cases h
  have gco : ∀ {b}, gc.own b → g.own b := fun {b} ⟨s, κ, e⟩ => ⟨_, κ, (gcs e).2⟩
  have not1 : ∀ {i b κ}, inv σ CL' i = none → g.β i = some (b, κ) → ¬ g1.own b ∧ ¬ g1.S b := by
    intro i b κ h hb
    have h1 := notc h hb
    obtain ⟨_, h2, h3⟩ := hO.own i b κ hb
    exact ⟨fun h4 => (hF1.own b h4).elim h1 (fun h5 => by omega), fun h4 => (hF1.S' b h4).elim h3 (fun h5 => h5.elim h1 (fun h6 => by omega))⟩
  have hD2 : ∀ s, domB CL' s = true → g2.β (σ s) = g1.β s ∧ szf (callL st.L σ CL') (σ s) = szf (ofL CL') s := fun s hsd => ⟨g2s (invσ s hsd), sz2s (invσ s hsd)⟩
  have hmo : Mo g (szf st.L) w g2 (szf (callL st.L σ CL')) w1 := by
    refine ⟨hF1.S, fun b o hb => cell_eq (hF1.heap b (hO.fz b hb) (fun h => hO.S_own hb (gco h))) o, fun i => ?_⟩
    cases e : inv σ CL' i with
    | none => exact .inr (.inl ⟨sz2n e, g2n e⟩)
    | some s =>
      obtain ⟨h1, rfl⟩ := inv_some e
      cases hc : domB CL s with
      | true =>
        obtain ⟨_, h2⟩ := hK1 s hc
        rw [sz2s e, g2s e, hszc s hc, (hDc s hc).1]
        exact .inr h2
      | false =>
        have h2 := newOK_get hnew s h1 hc
        exact .inl ⟨hO.none_of h2, by simp [szf, h2, szOf]⟩
  have hO2 : OR g2 (callL st.L σ CL') w1 := by
    refine ⟨fun i o ho => ?_, fun i b κ h => ?_, fun i j b κ κ' h h' => ?_, hO1.fz⟩
    · cases e : inv σ CL' i with
      | none =>
        rw [callL_none e] at ho
        exact (hO.ob i o ho).mono hmo (g2n e) (fun b κ hb => hF1.heap b (hO.own i b κ hb).2.1 (notc e hb))
      | some s =>
        obtain ⟨o', h1, h2⟩ := L2s e
        rw [h2] at ho; cases ho
        obtain ⟨h3, rfl⟩ := inv_some e
        exact ObR.ren (g := g1) (g' := g2) (D := domB CL') (fun _ h => h) hD2 (hO1.ob s o' h1) h3 (clOs_get hcl4 s o' h1)
    · cases e : inv σ CL' i with
      | none =>
        rw [g2n e] at h
        obtain ⟨h1, h2, h3⟩ := hO.own i b κ h
        exact ⟨by rw [callL_none e]; exact h1, Nat.lt_of_lt_of_le h2 hF1.size, (not1 e h).2⟩
      | some s =>
        rw [g2s e] at h
        obtain ⟨o', h1, h2⟩ := L2s e
        exact ⟨by rw [h2]; rfl, (hO1.own s b κ h).2⟩
    · cases e : inv σ CL' i with
      | none =>
        rw [g2n e] at h
        cases e' : inv σ CL' j with
        | none => rw [g2n e'] at h'; exact hO.inj i j b κ κ' h h'
        | some s' => rw [g2s e'] at h'; exact absurd ⟨s', κ', h'⟩ (not1 e h).1
      | some s =>
        rw [g2s e] at h
        cases e' : inv σ CL' j with
        | none => rw [g2n e'] at h'; exact absurd ⟨s, κ, h⟩ (not1 e' h').1
        | some s' =>
          rw [g2s e'] at h'
          have := hO1.inj s s' b κ κ' h h'
          rw [← (inv_some e).2, ← (inv_some e').2, this]
  have hF2 : Fr g w g2 w1 := by
    refine ⟨hF1.os, hF1.tape, hF1.out, hF1.size, fun b hb hn => hF1.heap b hb (fun h => hn (gco h)), hF1.S, fun b hb => (hF1.S' b hb).imp id (fun h => h.imp gco id), ?_⟩
    rintro b ⟨i, κ, h⟩
    cases e : inv σ CL' i with
    | none => rw [g2n e] at h; exact .inl ⟨i, κ, h⟩
    | some s => rw [g2s e] at h; exact (hF1.own b ⟨s, κ, h⟩).imp gco id
  have hK2 : Kp g st.L g2 (callL st.L σ CL') := by
    intro i hi
    cases e : inv σ CL' i with
    | none => rw [callL_none e, sz2n e, g2n e]; exact ⟨hi, .inl ⟨rfl, rfl⟩⟩
    | some s =>
      obtain ⟨o', h1, h2⟩ := L2s e
      refine ⟨by rw [h2]; rfl, ?_⟩
      obtain ⟨h3, rfl⟩ := inv_some e
      cases hc : domB CL s with
      | true =>
        obtain ⟨_, h4⟩ := hK1 s hc
        rw [sz2s e, g2s e, hszc s hc, (hDc s hc).1]
        exact h4
      | false => rw [newOK_get hnew s h3 hc] at hi; cases hi
  have hR2 : R g2 (szf (callL st.L σ CL')) w1 (ren σ v) u := R.ren (g := g1) (g' := g2) (D := domB CL') (fun _ h => h) hD2 hR1 hcl3
  refine ⟨g2, ?_, ⟨hf.f.trans hF2, hf.k.trans hK2⟩⟩
  cases d with
  | none => exact ⟨hs.nt, hs.df, fun i => (hs.tm i).mono hmo, hO2⟩
  | some d =>
    have hdN : d < c.cf.N := okDst_lt hd d rfl
    refine ⟨by simp [Act.put]; exact hs.nt, hs.df, fun i => ?_, hO2⟩
    have hsz : a.tmps.size = c.cf.N := hs.nt
    rw [put_getD a d u (by rw [hsz]; exact hdN)]
    by_cases e' : i = d
    · subst e'; rw [if_pos rfl]; show R _ _ _ (upd1 _ _ _ _) _; rw [upd1_self]; exact hR2
    · rw [if_neg e']; show R _ _ _ (upd1 _ _ _ _) _; rw [upd1_ne _ _ e']; exact (hs.tm i).mono hmo

/-- A call of a function of which it is known what it does. -/
theorem RnT.call {X : Sp} {f : FuncId} {args : List AV} {st : St} {d : Option Nat} {k : List It} {CL CL' : List (Nat × Ob)} {cargs : List AV} {v : AV}
    (hct : Ct X.P X.bs f cargs (ofL CL) v (ofL CL')) (σ : Nat → Nat) (hargs : LeL args (renL σ cargs)) (hobj : objsOK st.L σ CL) (hchk : callChk X.cf.N d st.L σ CL CL' cargs v = true)
    (h : Rn X k ⟨putO st.t d (ren σ v), callL st.L σ CL'⟩) : RnT X (.call f args st d k) := by
  intro z g a w hs hf vs hvl hvr
  refine (call_core (c := X.cx z) hct σ hargs hobj hchk hs hf hvl hvr).mono fun u w1 hK => ?_
  obtain ⟨g2, h1, h2⟩ := hK
  exact h z g2 _ w1 h1 h2

/-- A call of a function that is handed no object and makes none. -/
theorem RnT.call0 {X : Sp} {f : FuncId} {args : List AV} {st : St} {d : Option Nat} {k : List It} {cargs : List AV} {v : AV}
    (hct : Ct X.P X.bs f cargs (ofL []) v (ofL [])) (hargs : LeL args (renL id cargs)) (hchk : callChk X.cf.N d (ofL []) id [] [] cargs v = true)
    (h : Rn X k ⟨putO st.t d (ren id v), st.L⟩) : RnT X (.call f args st d k) := RnT.call hct id hargs trivial hchk h
end Go.EV
namespace Go.EV
open Go Go.RowKit
set_option linter.unusedVariables false

def lookT : List (Nat × TI) → Ty
  | [], _ => none
  | (j, v) :: r, i => bif Nat.beq i j then some v else lookT r i
def AllT (P : Program) : List (Nat × TI) → Prop
  | [] => True
  | (j, v) :: r => TyAt P j v ∧ AllT P r
theorem lookT_ok {P : Program} : ∀ {l : List (Nat × TI)}, AllT P l → TyOK P (lookT l)
  | [], _ => fun t i h => by cases h
  | (j, v) :: r, h => fun t i ht => by
    unfold lookT at ht
    by_cases e : t = j
    · subst e; rw [beq_self] at ht; cases ht; exact h.1
    · rw [beq_ne e] at ht; exact lookT_ok h.2 t i ht
theorem info_of {P : Program} {t : Nat} {i : TypeInfo} (h : P.types[t]? = some i) : P.info? t = some i := by
  have hlt : t < P.types.size := (Array.getElem?_eq_some_iff.1 h).1
  show Tables.info? P.toTables t = _
  unfold Tables.info?
  rw [if_pos hlt]; exact h
end Go.EV
namespace Go.EV
open Go
theorem RnT.eq {X : Sp} {t t' : Tree} (h : t = t') (k : RnT X t') : RnT X t := h ▸ k
theorem RnT.brE {X : Sp} {t0 : Tree} {b : Bool} {t e : Tree} (h : t0 = .br b t e) (h1 : b = true → RnT X t) (h2 : b = false → RnT X e) : RnT X t0 := h ▸ RnT.br h1 h2
theorem RnT.brT {X : Sp} {t0 : Tree} {t e : Tree} (h : t0 = .br true t e) (h1 : RnT X t) : RnT X t0 := h ▸ RnT.br (fun _ => h1) (fun h => nomatch h)
theorem RnT.brF {X : Sp} {t0 : Tree} {t e : Tree} (h : t0 = .br false t e) (h1 : RnT X e) : RnT X t0 := h ▸ RnT.br (fun h => nomatch h) (fun _ => h1)
theorem RnT.reqE {X : Sp} {t0 : Tree} {p : Prop} {t : Tree} (h : t0 = .req p t) (h1 : p) (h2 : RnT X t) : RnT X t0 := h ▸ RnT.req h1 h2
theorem RnT.nilqE {X : Sp} {t0 : Tree} {n : Nat} {t e : Tree} (h : t0 = .nilq n t e) (h1 : n = 0 → RnT X t) (h2 : RnT X e) : RnT X t0 := h ▸ fun z => ⟨fun hn => h1 hn z, h2 z⟩
theorem RnT.altE {X : Sp} {t0 : Tree} {n : Nat} {p : Nat → Prop} {f : Nat → Tree} {z : Tree} (h : t0 = .alt n p f z) (h1 : n = 0 → RnT X z) (h2 : ∀ j, j < n → p j → RnT X (f j)) : RnT X t0 := h ▸ fun y => ⟨fun hn => h1 hn y, fun j hj hp => h2 j hj hp y⟩
theorem RnT.gotoE {X : Sp} {t0 : Tree} {k : List It} {st : St} (h : t0 = .goto k st) (h1 : Rn X k st) : RnT X t0 := h ▸ RnT.goto h1
theorem RnT.doneE {X : Sp} (hτ : TyOK X.P X.cf.τ) {t0 : Tree} {st : St} {xs : List AV} (h : t0 = .done st) (hx : resL X.cf.τ st X.fn.results.toList = some xs) (hv : Le (mkRes xs) X.v) (hL : HasL st.L X.L')
    (hc : (cl (domB X.L') X.v && clOs (domB X.L') X.L') = true) (h0 : ∀ s, (ofL X.L0 s).isSome = true → domB X.L' s = true) : RnT X t0 := h ▸ RnT.done hτ hx hv hL hc h0
theorem RnT.call0E {X : Sp} {t0 : Tree} {f : FuncId} {args : List AV} {st : St} {d : Option Nat} {k : List It} {cargs : List AV} {v : AV} (h0 : t0 = .call f args st d k)
    (hct : Ct X.P X.bs f cargs (ofL []) v (ofL [])) (hargs : LeL args (renL id cargs)) (hchk : callChk X.cf.N d (ofL []) id [] [] cargs v = true)
    (h : Rn X k ⟨putO st.t d (ren id v), st.L⟩) : RnT X t0 := h0 ▸ RnT.call0 hct hargs hchk h
theorem RnT.callE {X : Sp} {t0 : Tree} {f : FuncId} {args : List AV} {st : St} {d : Option Nat} {k : List It} {CL CL' : List (Nat × Ob)} {cargs : List AV} {v : AV} (h0 : t0 = .call f args st d k)
    (hct : Ct X.P X.bs f cargs (ofL CL) v (ofL CL')) (σ : Nat → Nat) (hargs : LeL args (renL σ cargs)) (hobj : objsOK st.L σ CL)
    (hchk : callChk X.cf.N d st.L σ CL CL' cargs v = true)
    (h : Rn X k ⟨putO st.t d (ren σ v), callL st.L σ CL'⟩) : RnT X t0 := h0 ▸ RnT.call hct σ hargs hobj hchk h
theorem Rn.go {X : Sp} (hτ : TyOK X.P X.cf.τ) {k : List It} {st : St} (ht : RnT X (evT X.cf 100000 k st)) : Rn X k st := Rn.run hτ 100000 rfl ht
theorem Le.eq {x y : AV} (h : x = y) : Le x y := h ▸ Le.refl x
theorem LeL.eq {x y : List AV} (h : x = y) : LeL x y := h ▸ LeL.refl x
theorem dom0 {L : List (Nat × Ob)} (h : L = []) {D : Nat → Bool} : ∀ s, (ofL L s).isSome = true → D s = true := by subst h; intro s hs; cases hs
end Go.EV
namespace Go.EV
open Go Go.RowKit
set_option linter.unusedSimpArgs false
set_option linter.unusedVariables false

/-! ### regions that draw their order: steps that do not touch one another may change places -/
structure DK where
  rt : List Nat
  ro : List Nat
  wt : List Nat
  wo : List Nat

structure DS where
  i : Nat
  rt : List Nat
  ro : List Nat
  dt : List (Nat × AV)
  dL : List (Nat × Ob)

def DS.key (s : DS) : DK := ⟨s.rt, s.ro, s.dt.map (·.1), s.dL.map (·.1)⟩

def put1 {α : Type} (f : Nat → α) : List (Nat × α) → Nat → α
  | [] => f
  | (j, v) :: r => upd1 (put1 f r) j v
def putS {α : Type} (f : Nat → Option α) : List (Nat × α) → Nat → Option α
  | [] => f
  | (j, v) :: r => upd1 (putS f r) j (some v)

theorem put1_in {α : Type} (f f' : Nat → α) : ∀ (l : List (Nat × α)) (i : Nat), i ∈ l.map (·.1) → put1 f l i = put1 f' l i
  | [], i, h => by cases h
  | (j, v) :: r, i, h => by
    unfold put1
    by_cases e : i = j
    · subst e; rw [upd1_self, upd1_self]
    · rw [upd1_ne _ _ e, upd1_ne _ _ e]
      exact put1_in f f' r i (by simpa [e] using h)
theorem put1_out {α : Type} (f : Nat → α) : ∀ (l : List (Nat × α)) (i : Nat), i ∉ l.map (·.1) → put1 f l i = f i
  | [], i, h => rfl
  | (j, v) :: r, i, h => by
    simp only [List.map_cons, List.mem_cons, not_or] at h
    unfold put1
    rw [upd1_ne _ _ h.1]; exact put1_out f r i h.2
theorem putS_in {α : Type} (f f' : Nat → Option α) : ∀ (l : List (Nat × α)) (i : Nat), i ∈ l.map (·.1) → putS f l i = putS f' l i
  | [], i, h => by cases h
  | (j, v) :: r, i, h => by
    unfold putS
    by_cases e : i = j
    · subst e; rw [upd1_self, upd1_self]
    · rw [upd1_ne _ _ e, upd1_ne _ _ e]
      exact putS_in f f' r i (by simpa [e] using h)
theorem putS_out {α : Type} (f : Nat → Option α) : ∀ (l : List (Nat × α)) (i : Nat), i ∉ l.map (·.1) → putS f l i = f i
  | [], i, h => rfl
  | (j, v) :: r, i, h => by
    simp only [List.map_cons, List.mem_cons, not_or] at h
    unfold putS
    rw [upd1_ne _ _ h.1]; exact putS_out f r i h.2

def DS.app (s : DS) (st : St) : St := ⟨put1 st.t s.dt, putS st.L s.dL⟩

def disj (a b : List Nat) : Bool := a.all fun x => b.all fun y => !Nat.beq x y
theorem disj_spec {a b : List Nat} (h : disj a b = true) {x : Nat} (hx : x ∈ a) : x ∉ b := by
  intro hb
  have h1 := List.all_eq_true.1 h x hx
  have h2 := List.all_eq_true.1 h1 x hb
  rw [beq_self] at h2; cases h2

def apart (a b : DK) : Bool := (disj a.rt b.wt && disj b.rt a.wt) && (disj a.wt b.wt && disj a.ro b.wo) && (disj b.ro a.wo && disj a.wo b.wo)

theorem DS.comm {a b : DS} (h : apart a.key b.key = true) (st : St) : a.app (b.app st) = b.app (a.app st) := by
  unfold apart at h
  simp only [Bool.and_eq_true] at h
  obtain ⟨⟨⟨_, _⟩, hw, _⟩, _, ho⟩ := h
  unfold DS.app
  congr 1
  · funext i
    by_cases ha : i ∈ a.dt.map (·.1)
    · have hb : i ∉ b.dt.map (·.1) := disj_spec hw ha
      rw [put1_out _ b.dt i hb]; exact put1_in _ _ _ _ ha
    · rw [put1_out _ a.dt i ha]
      by_cases hb : i ∈ b.dt.map (·.1)
      · exact put1_in _ _ _ _ hb
      · rw [put1_out _ _ _ hb]; show put1 st.t b.dt i = put1 st.t a.dt i; rw [put1_out _ _ _ hb, put1_out _ _ _ ha]
  · funext i
    by_cases ha : i ∈ a.dL.map (·.1)
    · have hb : i ∉ b.dL.map (·.1) := disj_spec ho ha
      rw [putS_out _ b.dL i hb]; exact putS_in _ _ _ _ ha
    · rw [putS_out _ a.dL i ha]
      by_cases hb : i ∈ b.dL.map (·.1)
      · exact putS_in _ _ _ _ hb
      · rw [putS_out _ _ _ hb]; show putS st.L b.dL i = putS st.L a.dL i; rw [putS_out _ _ _ hb, putS_out _ _ _ ha]

/-- Two states tell a step the same. -/
def DS.agree (s : DS) (st st1 : St) : Prop := (∀ t ∈ s.rt, st1.t t = st.t t) ∧ ∀ o ∈ s.ro, st1.L o = st.L o

/-- A step's operation, wherever it is done, does what the step says. -/
def DS.ok (c : Cx) (all : Array Oper) (s : DS) (st : St) : Prop :=
  ∀ st1, s.agree st st1 → ∀ g a w, SR g c.cf.N st1 a w → In c g st1.L w → ∀ K : Act → World → Prop,
    (∀ g' a' w', SR g' c.cf.N (s.app st1) a' w' → In c g' (s.app st1).L w' → K a' w') → ∀ Q, wpOp c.P all Q s.i K a w

theorem DS.ok_of {c : Cx} {all : Array Oper} {s : DS} {st st' : St} (h : s.ok c all st) (ha : s.agree st st') : s.ok c all st' :=
  fun st1 h1 => h st1 ⟨fun t ht => (h1.1 t ht).trans (ha.1 t ht), fun o ho => (h1.2 o ho).trans (ha.2 o ho)⟩

theorem agree_app {s p : DS} (h : apart s.key p.key = true) (st : St) : s.agree st (p.app st) ∧ p.agree st (s.app st) := by
  unfold apart at h
  simp only [Bool.and_eq_true] at h
  obtain ⟨⟨⟨h1, h2⟩, _, h3⟩, h4, _⟩ := h
  exact ⟨⟨fun t ht => put1_out _ _ _ (disj_spec h1 ht), fun o ho => putS_out _ _ _ (disj_spec h3 ho)⟩,
    ⟨fun t ht => put1_out _ _ _ (disj_spec h2 ht), fun o ho => putS_out _ _ _ (disj_spec h4 ho)⟩⟩

def Chain (c : Cx) (all : Array Oper) : List DS → St → St → Prop
  | [], st, st' => st = st'
  | s :: r, st, st' => s.ok c all st ∧ Chain c all r (s.app st) st'

theorem agree_back {s : DS} {st st' : St} (h : s.agree st st') : s.agree st' st := ⟨fun t ht => (h.1 t ht).symm, fun o ho => (h.2 o ho).symm⟩

theorem Chain.front {c : Cx} {all : Array Oper} {s : DS} {l2 : List DS} {st' : St} : ∀ {l1 : List DS} {st : St}, (∀ p ∈ l1, apart s.key p.key = true) → Chain c all (l1 ++ s :: l2) st st' →
    s.ok c all st ∧ Chain c all (l1 ++ l2) (s.app st) st'
  | [], st, _, h => h
  | p :: l1, st, hp, h => by
    obtain ⟨h1, h2⟩ := h
    obtain ⟨h3, h4⟩ := Chain.front (l1 := l1) (fun q hq => hp q (List.mem_cons_of_mem _ hq)) h2
    have hap := hp p List.mem_cons_self
    obtain ⟨a1, a2⟩ := agree_app hap st
    exact ⟨DS.ok_of h3 (agree_back a1), DS.ok_of h1 a2, by rw [← DS.comm hap]; exact h4⟩

/-! which operations must come before which -/
def preds (o : Oper) : List Nat := o.after.toList.filterMap fun e => match e.ground with
  | .textOnly _ => none
  | .gcOnly _ => none
  | _ => some e.on
/-- Of each operation in turn: all that must come before it. -/
def ancs : List Oper → List (List Nat) → List (List Nat)
  | [], acc => acc
  | o :: r, acc => ancs r (acc ++ [(preds o).flatMap fun j => j :: acc.getD j []])

theorem preds_spec {o : Oper} {e : Edge} (he : e ∈ o.after) (hb : Region.binds .any e = true) : e.on ∈ preds o := by
  unfold preds
  refine List.mem_filterMap.2 ⟨e, by simpa using he, ?_⟩
  unfold Region.binds at hb
  cases hg : e.ground <;> rw [hg] at hb <;> first | rfl | (cases hb; done) | (simp at hb)
theorem preds_back {o : Oper} {j : Nat} (h : j ∈ preds o) : ∃ e ∈ o.after, Region.binds .any e = true ∧ e.on = j := by
  unfold preds at h
  obtain ⟨e, he, h2⟩ := List.mem_filterMap.1 h
  refine ⟨e, by simpa using he, ?_⟩
  unfold Region.binds
  cases hg : e.ground <;> rw [hg] at h2 <;> first | (cases h2; done) | (cases h2; exact ⟨rfl, rfl⟩)

theorem ancs_len : ∀ (l : List Oper) (acc : List (List Nat)), (ancs l acc).length = acc.length + l.length
  | [], acc => by simp [ancs]
  | o :: r, acc => by simp only [ancs, ancs_len r]; simp; omega
theorem ancs_pre : ∀ (l : List Oper) (acc : List (List Nat)) (i : Nat), i < acc.length → (ancs l acc).getD i [] = acc.getD i []
  | [], acc, i, h => rfl
  | o :: r, acc, i, h => by
    simp only [ancs]
    rw [ancs_pre r _ i (by simp; omega)]
    simp [List.getD, List.getElem?_append_left h]
theorem ancs_at : ∀ (l : List Oper) (acc : List (List Nat)) (i : Nat) (o : Oper), l[i]? = some o → (∀ k o', l[k]? = some o' → ∀ j ∈ preds o', j < acc.length + k) →
    (ancs l acc).getD (acc.length + i) [] = (preds o).flatMap fun j => j :: (ancs l acc).getD j []
  | [], acc, i, o, h, _ => by cases h
  | o0 :: r, acc, 0, o, h, hb => by
    simp only [List.getElem?_cons_zero, Option.some.injEq] at h
    subst h
    simp only [ancs]
    have hj : ∀ j ∈ preds o0, j < acc.length := fun j hj => by have := hb 0 o0 rfl j hj; omega
    have e1 : (ancs r (acc ++ [(preds o0).flatMap fun j => j :: acc.getD j []])).getD (acc.length + 0) [] = (preds o0).flatMap fun j => j :: acc.getD j [] := by
      rw [ancs_pre r _ _ (by simp)]
      simp [List.getD]
    rw [e1]
    have : ∀ {xs : List Nat}, (∀ j ∈ xs, j < acc.length) → (xs.flatMap fun j => j :: acc.getD j []) = xs.flatMap fun j => j :: (ancs r (acc ++ [(preds o0).flatMap fun j => j :: acc.getD j []])).getD j [] := by
      intro xs
      induction xs with
      | nil => intro _; rfl
      | cons x xs ih =>
        intro h
        have hx := h x List.mem_cons_self
        simp only [List.flatMap_cons]
        rw [ih fun j hj => h j (List.mem_cons_of_mem _ hj), ancs_pre r _ x (by simp; omega)]
        simp [List.getD, List.getElem?_append_left hx]
    exact this hj
  | o0 :: r, acc, i + 1, o, h, hb => by
    simp only [ancs]
    have := ancs_at r (acc ++ [(preds o0).flatMap fun j => j :: acc.getD j []]) i o (by simpa using h) (fun k o' hk j hj => by
      have := hb (k + 1) o' (by simpa using hk) j hj
      simp; omega)
    simp only [List.length_append, List.length_singleton] at this
    rw [show acc.length + (i + 1) = acc.length + 1 + i by omega]
    exact this

/-- Each operation's conditions lie before it. -/
def backward : List Oper → Nat → Bool
  | [], _ => true
  | o :: r, i => (preds o).all (fun j => Nat.blt j i) && backward r (i + 1)
theorem backward_spec : ∀ {l : List Oper} {n : Nat}, backward l n = true → ∀ k o, l[k]? = some o → ∀ j ∈ preds o, j < n + k
  | [], n, _, k, o, h, _, _ => by cases h
  | o0 :: r, n, h, 0, o, ho, j, hj => by
    simp only [backward, Bool.and_eq_true] at h
    simp only [List.getElem?_cons_zero, Option.some.injEq] at ho
    subst ho
    exact Nat.blt_eq.mp (List.all_eq_true.1 h.1 j hj)
  | o0 :: r, n, h, k + 1, o, ho, j, hj => by
    simp only [backward, Bool.and_eq_true] at h
    have := backward_spec h.2 k o (by simpa using ho) j hj
    omega

/-- All pairs of steps: apart, or one must come before the other. -/
def pairsWith (an : List (List Nat)) (p : DK) (i : Nat) : List DK → Nat → Bool
  | [], _ => true
  | q :: r, j => (apart q p || (an.getD j []).any fun x => Nat.beq x i) && pairsWith an p i r (j + 1)
def pairsOK (an : List (List Nat)) : List DK → Nat → Bool
  | [], _ => true
  | p :: r, i => pairsWith an p i r (i + 1) && pairsOK an r (i + 1)

theorem pairsWith_spec {an : List (List Nat)} {p : DK} {i : Nat} : ∀ {l : List DK} {j : Nat}, pairsWith an p i l j = true → ∀ k q, l[k]? = some q → apart q p = true ∨ i ∈ an.getD (j + k) []
  | [], j, _, k, q, h => by cases h
  | q0 :: r, j, h, 0, q, hq => by
    simp only [pairsWith, Bool.and_eq_true, Bool.or_eq_true, List.any_eq_true] at h
    simp only [List.getElem?_cons_zero, Option.some.injEq] at hq
    subst hq
    rcases h.1 with h | ⟨x, hx, e⟩
    · exact .inl h
    · exact .inr (by rw [← Nat.eq_of_beq_eq_true e]; exact hx)
  | q0 :: r, j, h, k + 1, q, hq => by
    simp only [pairsWith, Bool.and_eq_true] at h
    have := pairsWith_spec h.2 k q (by simpa using hq)
    rwa [show j + 1 + k = j + (k + 1) by omega] at this
theorem pairsOK_spec {an : List (List Nat)} : ∀ {l : List DK} {n : Nat}, pairsOK an l n = true → ∀ a b p q, a < b → l[a]? = some p → l[b]? = some q → apart q p = true ∨ (n + a) ∈ an.getD (n + b) []
  | [], n, _, a, b, p, q, _, h, _ => by cases h
  | p0 :: r, n, h, 0, 0, p, q, hab, _, _ => by omega
  | p0 :: r, n, h, a + 1, 0, p, q, hab, _, _ => by omega
  | p0 :: r, n, h, 0, b + 1, p, q, hab, hp, hq => by
    simp only [pairsOK, Bool.and_eq_true] at h
    simp only [List.getElem?_cons_zero, Option.some.injEq] at hp
    subst hp
    have := pairsWith_spec h.1 b q (by simpa using hq)
    rwa [show n + 1 + b = n + (b + 1) by omega] at this
  | p0 :: r, n, h, a + 1, b + 1, p, q, hab, hp, hq => by
    simp only [pairsOK, Bool.and_eq_true] at h
    have := pairsOK_spec h.2 a b p q (by omega) (by simpa using hp) (by simpa using hq)
    rwa [show n + 1 + a = n + (a + 1) by omega, show n + 1 + b = n + (b + 1) by omega] at this

/-- The steps that are left, in any order. -/
theorem any_of {c : Cx} {all : Array Oper} {Q : Exit → Act → World → Prop} {stn : St} (hback : backward all.toList 0 = true)
    (hQ : ∀ g a w, SR g c.cf.N stn a w → In c g stn.L w → Q .normal a w) :
    ∀ (n : Nat) (ds : List DS) (listed : Array Bool) (st : St), ds.length = n →
      ds.Pairwise (fun p q => p.i < q.i ∧ (apart q.key p.key = true ∨ p.i ∈ (ancs all.toList []).getD q.i [])) →
      (∀ j, (∃ s ∈ ds, s.i = j) ↔ (j < all.size ∧ listed.getD j true = false)) → listed.size = all.size →
      (∀ j o, all[j]? = some o → listed.getD j false = true → ∀ k ∈ preds o, listed.getD k false = true) →
      Chain c all ds st stn → ∀ g a w, SR g c.cf.N st a w → In c g st.L w → wpAny c.P .any all Q n listed a w := by
  have hb := backward_spec hback
  have anc_at : ∀ i o, all[i]? = some o → (ancs all.toList []).getD i [] = (preds o).flatMap fun j => j :: (ancs all.toList []).getD j [] := fun i o ho => by
    have := ancs_at all.toList [] i o (by rw [Array.getElem?_toList]; exact ho) (fun k o' hk j hj => by simpa using hb k o' hk j hj)
    simpa using this
  intro n
  induction n with
  | zero =>
    intro ds listed st hlen _ hds hsz _ hch g a w hs hf
    have : ds = [] := List.eq_nil_of_length_eq_zero hlen
    subst this
    refine ⟨?_, ?_⟩
    · rw [List.eq_nil_iff_forall_not_mem]
      intro j hj
      obtain ⟨h1, o, ho, _⟩ := mem_ready.1 hj
      obtain ⟨s, hs, _⟩ := (hds j).2 ⟨(Array.getElem?_eq_some_iff.1 ho).1, h1⟩
      cases hs
    · cases hch; exact hQ g a w hs hf
  | succ n ih =>
    intro ds listed st hlen hpw hds hsz hdown hch g a w hs hf
    -- what is listed has all of its conditions listed
    have hanc : ∀ (m j : Nat), j ≤ m → listed.getD j false = true → ∀ k ∈ (ancs all.toList []).getD j [], listed.getD k false = true := by
      intro m
      induction m with
      | zero =>
        intro j hj hl k hk
        obtain rfl : j = 0 := by omega
        cases ho : all[0]? with
        | none =>
          have : all.size ≤ 0 := by simpa using ho
          have e : (ancs all.toList []).getD 0 [] = [] := by
            have := ancs_len all.toList []
            simp [List.getD]
            rw [List.getElem?_eq_none (by simp at this; omega)]; rfl
          rw [e] at hk; cases hk
        | some o =>
          rw [anc_at 0 o ho] at hk
          obtain ⟨x, hx, _⟩ := List.mem_flatMap.1 hk
          have := hb 0 o (by rw [Array.getElem?_toList]; exact ho) x hx
          omega
      | succ m ihm =>
        intro j hj hl k hk
        cases ho : all[j]? with
        | none =>
          have h1 : all.size ≤ j := by simpa using ho
          have e : (ancs all.toList []).getD j [] = [] := by
            have := ancs_len all.toList []
            simp [List.getD]
            rw [List.getElem?_eq_none (by simp at this; omega)]; rfl
          rw [e] at hk; cases hk
        | some o =>
          rw [anc_at j o ho] at hk
          obtain ⟨x, hx, hk⟩ := List.mem_flatMap.1 hk
          have hlt := hb j o (by rw [Array.getElem?_toList]; exact ho) x hx
          have hlx := hdown j o ho hl x hx
          rcases List.mem_cons.1 hk with rfl | hk
          · exact hlx
          · exact ihm x (by omega) hlx k hk
    have hnot : ∀ {j}, listed.getD j true = false → listed.getD j false = false := by
      intro j h
      simp only [Array.getD_eq_getD_getElem?] at h ⊢
      cases e : listed[j]? with
      | none => rw [e] at h; cases h
      | some x => rw [e] at h; simpa using h
    refine ⟨fun hnil => ?_, fun i hi => ?_⟩
    · exfalso
      cases ds with
      | nil => cases hlen
      | cons s r =>
        obtain ⟨hlt, hl⟩ := (hds s.i).1 ⟨s, List.mem_cons_self, rfl⟩
        obtain ⟨o, ho⟩ : ∃ o, all[s.i]? = some o := ⟨_, Array.getElem?_eq_getElem hlt⟩
        have : s.i ∈ Region.ready .any all listed := mem_ready.2 ⟨hl, o, ho, fun e he hbd => by
          have hp := preds_spec he hbd
          have hlt2 := hb s.i o (by rw [Array.getElem?_toList]; exact ho) _ hp
          cases hcase : listed.getD e.on false with
          | true => rfl
          | false =>
            exfalso
            have h3 : listed.getD e.on true = false := by
              have hin : e.on < listed.size := by omega
              simp only [Array.getD_eq_getD_getElem?, Array.getElem?_eq_getElem hin, Option.getD_some] at hcase ⊢
              exact hcase
            obtain ⟨q, hq, hqi⟩ := (hds e.on).2 ⟨by omega, h3⟩
            rcases List.mem_cons.1 hq with rfl | hq
            · omega
            · have := ((List.pairwise_cons.1 hpw).1 q hq).1; omega⟩
        rw [hnil] at this; cases this
    · obtain ⟨hl, o, ho, hpre⟩ := mem_ready.1 hi
      have hlt := (Array.getElem?_eq_some_iff.1 ho).1
      obtain ⟨s, hs1, hsi⟩ := (hds i).2 ⟨hlt, hl⟩
      obtain ⟨l1, l2, rfl⟩ := List.append_of_mem hs1
      have hpw2 := List.pairwise_append.1 hpw
      have hap : ∀ p ∈ l1, apart s.key p.key = true := by
        intro p hp
        rcases (hpw2.2.2 p hp s List.mem_cons_self).2 with h | h
        · exact h
        · exfalso
          rw [hsi, anc_at i o ho] at h
          obtain ⟨x, hx, hk⟩ := List.mem_flatMap.1 h
          obtain ⟨e, he, hbd, rfl⟩ := preds_back hx
          have hlx := hpre e he hbd
          have hlp : listed.getD p.i false = true := by
            rcases List.mem_cons.1 hk with h1 | hk
            · rw [h1]; exact hlx
            · exact hanc _ _ (Nat.le_refl _) hlx _ hk
          have := hnot ((hds p.i).1 ⟨p, by simp [hp], rfl⟩).2
          rw [hlp] at this; cases this
      obtain ⟨hok, hch2⟩ := Chain.front hap hch
      have hsub : (l1 ++ l2).Pairwise (fun p q => p.i < q.i ∧ (apart q.key p.key = true ∨ p.i ∈ (ancs all.toList []).getD q.i [])) :=
        hpw.sublist (List.Sublist.append (List.Sublist.refl l1) (List.sublist_cons_self s l2))
      have hne : ∀ p ∈ l1 ++ l2, p.i ≠ i := by
        intro p hp
        rcases List.mem_append.1 hp with hp | hp
        · have := (hpw2.2.2 p hp s List.mem_cons_self).1; omega
        · have := ((List.pairwise_cons.1 hpw2.2.1).1 p hp).1; omega
      have hwp := hok st ⟨fun _ _ => rfl, fun _ _ => rfl⟩ g a w hs hf (wpAny c.P .any all Q n (listed.setIfInBounds i true)) (fun g' a' w' hs' hf' => ?_) Q
      · rw [hsi] at hwp; exact hwp
      · refine ih (l1 ++ l2) _ (s.app st) (by simp at hlen ⊢; omega) hsub (fun j => ?_) (by simpa using hsz) (fun j o' ho' hl' k hk => ?_) hch2 g' a' w' hs' hf'
        · constructor
          · rintro ⟨q, hq, rfl⟩
            have hq' : q ∈ l1 ++ s :: l2 := by
              rcases List.mem_append.1 hq with h | h
              · simp [h]
              · simp [h]
            obtain ⟨h1, h2⟩ := (hds q.i).1 ⟨q, hq', rfl⟩
            exact ⟨h1, by rw [getD_set_ne true (fun e => hne q hq e.symm)]; exact h2⟩
          · rintro ⟨h1, h2⟩
            have hji : i ≠ j := by
              rintro rfl
              have hin : i < listed.size := by omega
              simp [Array.getD_eq_getD_getElem?, hin] at h2
            rw [getD_set_ne true hji] at h2
            obtain ⟨q, hq, hqi⟩ := (hds j).2 ⟨h1, h2⟩
            rcases List.mem_append.1 hq with hq | hq
            · exact ⟨q, by simp [hq], hqi⟩
            · rcases List.mem_cons.1 hq with rfl | hq
              · exact absurd (hsi.symm.trans hqi) hji
              · exact ⟨q, by simp [hq], hqi⟩
        · by_cases hji : i = j
          · subst hji
            rw [ho] at ho'; cases ho'
            obtain ⟨e, he, hbd, rfl⟩ := preds_back hk
            exact getD_set_true (hpre e he hbd)
          · rw [getD_set_ne false hji] at hl'
            exact getD_set_true (hdown j o' ho' hl' k hk)
end Go.EV
namespace Go.EV
open Go Go.RowKit
set_option linter.unusedSimpArgs false
set_option linter.unusedVariables false

/-! ### what an operation looks at -/
def sitesOf : AV → List Nat
  | .ref s _ _ _ _ => [s]
  | .osl s _ _ _ _ => [s]
  | .omap s => [s]
  | _ => []
def touched (ρ : Operand → AV) (o : Oper) : List Nat :=
  match o.op with
  | .alloc _ => o.dst.toList ++ o.dst.toList.map (1000000 + ·)
  | .box _ _ => o.dst.toList
  | .buildSlice _ _ _ => o.dst.toList
  | .makeSlice _ _ _ => o.dst.toList
  | .load _ x => sitesOf (ρ x)
  | .nilCheck x => sitesOf (ρ x)
  | .fieldAddr _ x _ => sitesOf (ρ x)
  | .indexAddr _ x _ => sitesOf (ρ x)
  | .slice _ x _ _ _ => sitesOf (ρ x)
  | .store _ a _ => sitesOf (ρ a)
  | .binOp _ _ x y _ => sitesOf (ρ x) ++ sitesOf (ρ y)
  | .makeMap _ _ => o.dst.toList
  | .lookup _ x _ _ => sitesOf (ρ x)
  | .mapUpdate _ x _ _ => sitesOf (ρ x)
  | .insert _ x _ _ => sitesOf (ρ x)
  | .mapEntry _ x _ => sitesOf (ρ x)
  | .entryStore _ x _ _ => sitesOf (ρ x)
  | .range _ _ => o.dst.toList
  | .next x _ => sitesOf (ρ x)
  | .convert _ _ x => sitesOf (ρ x)
  | .call c => match c.callee with
    | .builtin b => match b with
      | .len => c.args.toList.flatMap fun x => sitesOf (ρ x)
      | .append => o.dst.toList ++ c.args.toList.flatMap fun x => sitesOf (ρ x)
      | .clear => c.args.toList.flatMap fun x => sitesOf (ρ x)
      | _ => []
    | _ => []
  | _ => []
def otmps (o : Oper) : List Nat := o.op.operands.toList.filterMap fun x => match x with
  | .tmp t => some t
  | _ => none

section
variable {L L' : Obs} {τ : Ty}

theorem refOK_congr {s ep : Nat} {k : OT} (h : L s = L' s) : refOK L s ep k = refOK L' s ep k := by unfold refOK; rw [h]
theorem loadE_congr {t : TypeId} {x : AV} (h : ∀ s ∈ sitesOf x, L s = L' s) : loadE τ L t x = loadE τ L' t x := by
  unfold loadE
  cases τ t with
  | none => rfl
  | some i => cases x <;> first | rfl | (simp only [sitesOf, List.mem_singleton, forall_eq] at h; simp only [h])
theorem storeE_congr {t : TypeId} {x y : AV} (h : ∀ s ∈ sitesOf x, L s = L' s) : storeE τ L t x y = storeE τ L' t x y := by
  unfold storeE
  cases τ t with
  | none => rfl
  | some i => cases x <;> first | rfl | (simp only [sitesOf, List.mem_singleton, forall_eq] at h; simp only [h])
theorem fieldAddrE_congr {t : TypeId} {x : AV} {f : Nat} (h : ∀ s ∈ sitesOf x, L s = L' s) : fieldAddrE τ L t x f = fieldAddrE τ L' t x f := by
  unfold fieldAddrE
  cases x <;> first | rfl | (simp only [sitesOf, List.mem_singleton, forall_eq] at h; simp only [refOK_congr h])
theorem indexAddrE_congr {t : TypeId} {x ix : AV} (h : ∀ s ∈ sitesOf x, L s = L' s) : indexAddrE τ L t x ix = indexAddrE τ L' t x ix := by
  unfold indexAddrE
  cases x <;> first | rfl | (simp only [sitesOf, List.mem_singleton, forall_eq] at h; simp only [refOK_congr h, h])
theorem nilCheckE_congr {x : AV} (h : ∀ s ∈ sitesOf x, L s = L' s) : nilCheckE L x = nilCheckE L' x := by
  unfold nilCheckE
  cases x <;> first | rfl | (simp only [sitesOf, List.mem_singleton, forall_eq] at h; simp only [refOK_congr h])
theorem sliceE_congr {t : TypeId} {x : AV} {lo hi mx : Option AV} (h : ∀ s ∈ sitesOf x, L s = L' s) : sliceE τ L t x lo hi mx = sliceE τ L' t x lo hi mx := by
  unfold sliceE
  cases x <;> first | (simp only [sitesOf, List.mem_singleton, forall_eq] at h; simp only [h]; done) | (cases τ t with | none => rfl | some i => obtain ⟨d, inf⟩ := i; cases d <;> first | rfl | (simp only [sitesOf, List.mem_singleton, forall_eq] at h; simp only [szf, h]))
theorem lenOE_congr {t : TypeId} {x : AV} (h : ∀ s ∈ sitesOf x, L s = L' s) : lenOE τ L t x = lenOE τ L' t x := by
  unfold lenOE
  cases x <;> first | (simp only [sitesOf, List.mem_singleton, forall_eq] at h; simp only [szf, h]; done) | (cases τ t with | none => rfl | some i => obtain ⟨d, inf⟩ := i; cases d <;> first | rfl | (simp only [sitesOf, List.mem_singleton, forall_eq] at h; simp only [szf, h]))
theorem newBox_congr {d : Nat} {xs : List AV} (h : L d = L' d) : newBox L d xs = newBox L' d xs := by unfold newBox; rw [h]
theorem newBd_congr {d t : Nat} (h : L d = L' d) (h2 : L (1000000 + d) = L' (1000000 + d)) : newBd L d t = newBd L' d t := by unfold newBd; rw [h, h2]
theorem allocE_congr {d : Option Nat} {t : TypeId} (h : ∀ s ∈ d.toList ++ d.toList.map (1000000 + ·), L s = L' s) : allocE τ L d t = allocE τ L' d t := by
  cases d with
  | none => rfl
  | some d =>
    unfold allocE
    cases τ t with
    | none => rfl
    | some i =>
      dsimp only
      cases i.info.zero with
      | none => rfl
      | some z =>
        dsimp only
        rw [newBox_congr (h d (by simp)), newBd_congr (h d (by simp)) (h (1000000 + d) (by simp))]
theorem boxE_congr {d : Option Nat} {x : AV} (h : ∀ s ∈ d.toList, L s = L' s) : boxE L d x = boxE L' d x := by
  cases d with
  | none => rfl
  | some d => unfold boxE; simp only [newBox_congr (h d (by simp))]
theorem buildSliceE_congr {own : Nat → Bool} {d : Option Nat} {t : TypeId} {len : Nat} {parts : List (Nat × AV)} (h : ∀ s ∈ d.toList, L s = L' s) : buildSliceE τ own L d t len parts = buildSliceE τ own L' d t len parts := by
  cases d with
  | none => unfold buildSliceE; cases litE τ t len parts <;> rfl
  | some d =>
    unfold buildSliceE
    cases litE τ t len parts with
    | none => rfl
    | some p => obtain ⟨size, cs⟩ := p; dsimp only; rw [h d (by simp)]
theorem makeSliceE_congr {d : Option Nat} {t : TypeId} {x y : AV} (h : ∀ s ∈ d.toList, L s = L' s) : makeSliceE τ L d t x y = makeSliceE τ L' d t x y := by
  unfold makeSliceE
  cases τ t with
  | none => rfl
  | some i =>
    obtain ⟨ds, inf⟩ := i
    cases ds <;> try rfl
    cases x <;> try rfl
    cases y <;> try rfl
    cases d with
    | none => rfl
    | some d => dsimp only; rw [h d (by simp)]
theorem dstE_congr {d size m : Nat} {x : AV} {f2 : Nat → Nat → AV} (h : L d = L' d) (hx : ∀ s ∈ sitesOf x, L s = L' s) : appendE.dstE L d size x m f2 = appendE.dstE L' d size x m f2 := by
  unfold appendE.dstE
  cases x <;> first | rfl | (dsimp only; rw [h]; done) | (simp only [sitesOf, List.mem_singleton, forall_eq] at hx; dsimp only; rw [hx])
theorem srcE_congr {size : Nat} {y : AV} {k : Nat → (Nat → Nat → AV) → OT} (hy : ∀ s ∈ sitesOf y, L s = L' s) : appendE.srcE L size y k = appendE.srcE L' size y k := by
  unfold appendE.srcE
  cases y <;> first | rfl | (simp only [sitesOf, List.mem_singleton, forall_eq] at hy; dsimp only; rw [hy])
theorem appendE_congr {d : Option Nat} {t : TypeId} {x y : AV} (h : ∀ s ∈ d.toList, L s = L' s) (hx : ∀ s ∈ sitesOf x, L s = L' s) (hy : ∀ s ∈ sitesOf y, L s = L' s) : appendE τ L d t x y = appendE τ L' d t x y := by
  unfold appendE
  cases τ t with
  | none => rfl
  | some i =>
    obtain ⟨ds, inf⟩ := i
    cases ds <;> try rfl
    rename_i el
    dsimp only
    cases τ el with
    | none => rfl
    | some e =>
      dsimp only
      cases e.info.zero with
      | none => rfl
      | some z => cases d with
        | none => rfl
        | some d =>
          dsimp only
          rw [srcE_congr hy]
          congr 2
          funext m f2
          exact dstE_congr (h d (by simp)) hx

theorem binAE_congr {op : BinOp} {t : TypeId} {x y : AV} (h : ∀ s ∈ sitesOf x, L s = L' s) : binAE τ L op t x y = binAE τ L' op t x y := by
  unfold binAE
  cases x <;> first | rfl | (simp only [sitesOf, List.mem_singleton, forall_eq] at h; cases y <;> first | rfl | simp only [refOK_congr h])
theorem makeMapE_congr {d : Option Nat} {t : TypeId} {r : Option AV} (h : ∀ s ∈ d.toList, L s = L' s) : makeMapE τ L d t r = makeMapE τ L' d t r := by
  unfold makeMapE
  cases mapT τ t with
  | none => rfl
  | some p => cases d with
    | none => rfl
    | some d => dsimp only; rw [h d (by simp)]
theorem lookupE_congr {t : TypeId} {x i : AV} {ok : Bool} (h : ∀ s ∈ sitesOf x, L s = L' s) : lookupE τ L t x i ok = lookupE τ L' t x i ok := by
  unfold lookupE
  cases mapT τ t with
  | none => rfl
  | some p => cases x <;> first | rfl | (simp only [sitesOf, List.mem_singleton, forall_eq] at h; dsimp only; rw [h])
theorem mapUpdateE_congr {t : TypeId} {x i y : AV} (h : ∀ s ∈ sitesOf x, L s = L' s) : mapUpdateE τ L t x i y = mapUpdateE τ L' t x i y := by
  unfold mapUpdateE
  cases mapT τ t with
  | none => rfl
  | some p => cases x <;> first | rfl | (simp only [sitesOf, List.mem_singleton, forall_eq] at h; dsimp only; rw [h])
theorem mapEntryE_congr {t : TypeId} {x i : AV} (h : ∀ s ∈ sitesOf x, L s = L' s) : mapEntryE τ L t x i = mapEntryE τ L' t x i := by
  unfold mapEntryE
  cases mapT τ t with
  | none => rfl
  | some p => cases x <;> first | rfl | (simp only [sitesOf, List.mem_singleton, forall_eq] at h; dsimp only; rw [h])
theorem entryStoreE_congr {x i y : AV} (h : ∀ s ∈ sitesOf x, L s = L' s) : entryStoreE L x i y = entryStoreE L' x i y := by
  unfold entryStoreE
  cases x <;> first | rfl | (simp only [sitesOf, List.mem_singleton, forall_eq] at h; cases i <;> first | rfl | (simp only [h]; done))
theorem lenME_congr {t : TypeId} {x : AV} (h : ∀ s ∈ sitesOf x, L s = L' s) : lenME τ L t x = lenME τ L' t x := by
  cases x with
  | omap s => unfold lenME; simp only [sitesOf, List.mem_singleton, forall_eq] at h; dsimp only; rw [h]
  | _ => exact lenOE_congr h
theorem rangeE_congr {d : Option Nat} {t : TypeId} {x : AV} (h : ∀ s ∈ d.toList, L s = L' s) : rangeE τ L d t x = rangeE τ L' d t x := by
  unfold rangeE
  cases d with
  | none => cases τ t with
    | none => rfl
    | some i => obtain ⟨ds, inf⟩ := i; cases ds <;> first | rfl | (cases x <;> rfl)
  | some d => cases τ t with
    | none => rfl
    | some i => obtain ⟨ds, inf⟩ := i; cases ds <;> first | rfl | (cases x <;> first | rfl | (simp only [h d (by simp)]; done))
theorem nextE_congr {x : AV} {b : Bool} (h : ∀ s ∈ sitesOf x, L s = L' s) : nextE L x b = nextE L' x b := by
  unfold nextE
  cases x <;> first | rfl | (simp only [sitesOf, List.mem_singleton, forall_eq] at h; cases b <;> first | rfl | (simp only [h]; done))

theorem convB_congr {s d : TypeId} {x : AV} (h : ∀ s ∈ sitesOf x, L s = L' s) : convB τ L s d x = convB τ L' s d x := by
  unfold convB
  cases (isU8s τ s && isStrT τ d) with
  | false => rfl
  | true =>
    simp only [cond_true]
    unfold appendE.srcE
    cases x <;> first | rfl | (simp only [sitesOf, List.mem_singleton, forall_eq] at h; dsimp only; rw [h])
theorem clearE_congr {t : TypeId} {x : AV} (h : ∀ s ∈ sitesOf x, L s = L' s) : clearE τ L t x = clearE τ L' t x := by
  unfold clearE
  cases τ t with
  | none => rfl
  | some i =>
    obtain ⟨ds, inf⟩ := i
    cases ds <;> first | rfl | (cases x <;> first | rfl | (simp only [sitesOf, List.mem_singleton, forall_eq] at h; dsimp only; rw [h]))
theorem map_ops_congr {ρ ρ' : Operand → AV} {xs : List Operand} (h : ∀ x ∈ xs, ρ x = ρ' x) : xs.map ρ = xs.map ρ' := List.map_congr_left h

theorem opE_congr {own : Nat → Bool} {ρ ρ' : Operand → AV} {o : Oper} (hρ : ∀ x ∈ o.op.operands, ρ x = ρ' x) (hL : ∀ s ∈ touched ρ o, L s = L' s) : opE τ own ρ L o = opE τ own ρ' L' o := by
  unfold opE
  unfold touched at hL
  unfold Op.operands at hρ
  cases ho : o.op <;> rw [ho] at hL hρ <;> (try rfl) <;> simp only [List.mem_toArray, List.mem_cons, List.not_mem_nil, or_false, forall_eq_or_imp, forall_eq, Array.mem_append, Array.mem_singleton] at hρ hL ⊢
  case move => rw [hρ]
  case assign => rw [hρ]
  case pick => rw [hρ.1, hρ.2.1, hρ.2.2]
  case alloc => exact allocE_congr hL
  case box => rw [hρ]; exact boxE_congr hL
  case build => rw [show (_ : List (Nat × AV)) = _ from List.map_congr_left fun p hp => by rw [hρ p.2 (by simpa using ⟨p.1, by simpa using hp⟩)]]
  case buildSlice => rw [show (_ : List (Nat × AV)) = _ from List.map_congr_left fun p hp => by rw [hρ p.2 (by simpa using ⟨p.1, by simpa using hp⟩)]]; exact buildSliceE_congr hL
  case load => rw [← hρ]; exact loadE_congr hL
  case store => rw [← hρ.1, ← hρ.2]; exact storeE_congr hL
  case nilCheck => rw [← hρ]; exact nilCheckE_congr hL
  case binOp op t x y p =>
    have h1 : ρ x = ρ' x := by first | exact hρ.1 | exact hρ x (by simp)
    have h2 : ρ y = ρ' y := by first | exact hρ.2 | exact hρ y (by simp)
    rw [← h1, ← h2]; exact binAE_congr fun s hs => hL s (by first | exact .inl hs | exact List.mem_append.2 (.inl hs) | (simp; exact .inl hs))
  case makeMap t r =>
    have h3 : r.map ρ = r.map ρ' := by cases r with | none => rfl | some y => simp [hρ y (by simp)]
    rw [← h3]; exact makeMapE_congr hL
  case lookup => rw [← hρ.1, ← hρ.2]; exact lookupE_congr hL
  case mapUpdate => rw [← hρ.1, ← hρ.2.1, ← hρ.2.2]; exact mapUpdateE_congr hL
  case insert => rw [← hρ.1, ← hρ.2.1, ← hρ.2.2]; exact mapUpdateE_congr hL
  case mapEntry => rw [← hρ.1, ← hρ.2]; exact mapEntryE_congr hL
  case entryStore => rw [← hρ.1, ← hρ.2.1, ← hρ.2.2]; exact entryStoreE_congr hL
  case range => rw [hρ]; exact rangeE_congr hL
  case next => rw [← hρ]; exact nextE_congr hL
  case unOp => rw [hρ]
  case convert => rw [← hρ]; exact convB_congr hL
  case makeFunc fn first captured =>
    cases fn with
    | func f =>
      cases hf : first.toList with
      | nil =>
        have hf0 : first = #[] := by rw [← Array.toList_eq_nil_iff]; exact hf
        subst hf0
        simp only
        rw [map_ops_congr fun x hx => hρ x (by simpa using hx)]
      | cons => rfl
    | _ => rfl
  case makeSlice => rw [← hρ.1, ← hρ.2]; exact makeSliceE_congr hL
  case slice t x lo hi mx =>
    have h1 : ρ x = ρ' x := hρ x (by simp)
    have h2 : lo.map ρ = lo.map ρ' := by cases lo with | none => rfl | some y => simp [hρ y (by simp)]
    have h3 : hi.map ρ = hi.map ρ' := by cases hi with | none => rfl | some y => simp [hρ y (by simp)]
    have h4 : mx.map ρ = mx.map ρ' := by cases mx with | none => rfl | some y => simp [hρ y (by simp)]
    rw [← h1, ← h2, ← h3, ← h4]; exact sliceE_congr hL
  case fieldAddr => rw [← hρ]; exact fieldAddrE_congr hL
  case field => rw [hρ]
  case indexAddr => rw [← hρ.1, ← hρ.2]; exact indexAddrE_congr hL
  case index => rw [hρ.1, hρ.2]
  case extract => rw [hρ]
  case call c =>
    unfold Call.operands at hρ
    cases hc : c.callee with
    | builtin b =>
      rw [hc] at hρ hL
      have hρ' : ∀ x ∈ c.args.toList, ρ x = ρ' x := fun x hx => hρ x (by simpa using hx)
      cases b <;> try rfl
      case append =>
        simp only at hL ⊢
        cases ha : c.args.toList with
        | nil => cases c.argTypes.toList <;> rfl
        | cons x r =>
          cases r with
          | nil => cases c.argTypes.toList <;> rfl
          | cons y r =>
            cases r with
            | cons => cases c.argTypes.toList <;> rfl
            | nil =>
              rw [ha] at hρ' hL
              cases c.argTypes.toList with
              | nil => rfl
              | cons t ts => cases ts with
                | nil => rfl
                | cons t' ts => cases ts with
                  | cons => rfl
                  | nil =>
                    simp only [← hρ' x (by simp), ← hρ' y (by simp)]
                    rw [appendE_congr (fun s hs => hL s (by simp at hs ⊢; simp [hs])) (fun s hs => hL s (by simp [hs])) (fun s hs => hL s (by simp [hs]))]
      case len =>
        simp only at hL ⊢
        cases ha : c.args.toList with
        | nil => cases c.argTypes.toList <;> rfl
        | cons x r =>
          cases r with
          | cons => cases c.argTypes.toList <;> rfl
          | nil =>
            rw [ha] at hρ' hL
            cases c.argTypes.toList with
            | nil => rfl
            | cons t ts => cases ts with
              | cons => rfl
              | nil =>
                simp only [← hρ' x (by simp)]
                rw [lenME_congr (fun s hs => hL s (by simp [hs]))]
      case max => simp only; rw [map_ops_congr hρ']
      case clear =>
        simp only at hL ⊢
        cases ha : c.args.toList with
        | nil => cases c.argTypes.toList <;> rfl
        | cons x r =>
          cases r with
          | cons => cases c.argTypes.toList <;> rfl
          | nil =>
            rw [ha] at hρ' hL
            cases c.argTypes.toList with
            | nil => rfl
            | cons t ts => cases ts with
              | cons => rfl
              | nil =>
                simp only [← hρ' x (by simp)]
                rw [clearE_congr (fun s hs => hL s (by simp [hs]))]
      case min => simp only; rw [map_ops_congr hρ']
    | _ => rfl
end
end Go.EV
namespace Go.EV
open Go Go.RowKit
set_option linter.unusedSimpArgs false
set_option linter.unusedVariables false

/-! which must come before which, as bits -/
def maskOf (ms : List Nat) : List Nat → Nat
  | [] => 0
  | j :: r => 2 ^ j ||| (ms.getD j 0 ||| maskOf ms r)
/-- Masks that are right. -/
def mchk (M : List Nat) : List Oper → Nat → Bool
  | [], _ => true
  | o :: r, i => Nat.beq (M.getD i 0) (maskOf M (preds o)) && mchk M r (i + 1)
theorem mchk_at {M : List Nat} : ∀ {l : List Oper} {n : Nat}, mchk M l n = true → ∀ k o, l[k]? = some o → M.getD (n + k) 0 = maskOf M (preds o)
  | [], _, _, k, o, h => by cases h
  | o0 :: r, n, h, 0, o, ho => by
    simp only [mchk, Bool.and_eq_true] at h
    simp only [List.getElem?_cons_zero, Option.some.injEq] at ho
    subst ho
    exact Nat.eq_of_beq_eq_true h.1
  | o0 :: r, n, h, k + 1, o, ho => by
    simp only [mchk, Bool.and_eq_true] at h
    have := mchk_at h.2 k o (by simpa using ho)
    rwa [show n + 1 + k = n + (k + 1) by omega] at this
def pairsMW (ms : List Nat) (p : DK) (i : Nat) : List DK → Nat → Bool
  | [], _ => true
  | q :: r, j => (Nat.testBit (ms.getD j 0) i || apart q p) && pairsMW ms p i r (j + 1)
def pairsM (ms : List Nat) : List DK → Nat → Bool
  | [], _ => true
  | p :: r, i => pairsMW ms p i r (i + 1) && pairsM ms r (i + 1)

theorem maskOf_mem {ms : List Nat} {acc : List (List Nat)} : ∀ {l : List Nat} {x : Nat}, (∀ i ∈ l, ∀ x, (ms.getD i 0).testBit x = true → x ∈ acc.getD i []) → (maskOf ms l).testBit x = true → x ∈ l.flatMap fun j => j :: acc.getD j []
  | [], x, _, hx => by simp [maskOf] at hx
  | j :: r, x, h, hx => by
    simp only [maskOf, Nat.testBit_or, Bool.or_eq_true] at hx
    simp only [List.flatMap_cons, List.mem_append, List.mem_cons]
    rcases hx with hx | hx | hx
    · rw [Nat.testBit_two_pow] at hx
      exact .inl (.inl (of_decide_eq_true hx).symm)
    · exact .inl (.inr (h j List.mem_cons_self x hx))
    · exact .inr (maskOf_mem (fun i hi => h i (List.mem_cons_of_mem _ hi)) hx)
theorem masks_mem {l : List Oper} {M : List Nat} (hb : backward l 0 = true) (h : mchk M l 0 = true) : ∀ (n i : Nat), i < n → i < l.length → ∀ x, (M.getD i 0).testBit x = true → x ∈ (ancs l []).getD i []
  | 0, i, hi, _, _, _ => by omega
  | n + 1, i, hi, hl, x, hx => by
    have ho : l[i]? = some l[i] := List.getElem?_eq_getElem hl
    have e1 := mchk_at h i l[i] ho
    have e2 := ancs_at l [] i l[i] ho (fun k o' hk j hj => by simpa using backward_spec hb k o' hk j hj)
    simp only [Nat.zero_add, List.length_nil] at e1 e2
    rw [e2]
    rw [e1] at hx
    refine maskOf_mem (fun j hj y hy => ?_) hx
    have hji : j < i := by simpa using backward_spec hb i l[i] ho j hj
    exact masks_mem hb h n j (by omega) (by omega) y hy
theorem pairsMW_spec {ms : List Nat} {p : DK} {i : Nat} : ∀ {l : List DK} {j : Nat}, pairsMW ms p i l j = true → ∀ k q, l[k]? = some q → apart q p = true ∨ (ms.getD (j + k) 0).testBit i = true
  | [], j, _, k, q, h => by cases h
  | q0 :: r, j, h, 0, q, hq => by
    simp only [pairsMW, Bool.and_eq_true, Bool.or_eq_true] at h
    simp only [List.getElem?_cons_zero, Option.some.injEq] at hq
    subst hq
    exact h.1.symm
  | q0 :: r, j, h, k + 1, q, hq => by
    simp only [pairsMW, Bool.and_eq_true] at h
    have := pairsMW_spec h.2 k q (by simpa using hq)
    rwa [show j + 1 + k = j + (k + 1) by omega] at this
theorem pairsM_spec {ms : List Nat} : ∀ {l : List DK} {n : Nat}, pairsM ms l n = true → ∀ a b p q, a < b → l[a]? = some p → l[b]? = some q → apart q p = true ∨ (ms.getD (n + b) 0).testBit (n + a) = true
  | [], n, _, a, b, p, q, _, h, _ => by cases h
  | p0 :: r, n, h, 0, 0, p, q, hab, _, _ => by omega
  | p0 :: r, n, h, a + 1, 0, p, q, hab, _, _ => by omega
  | p0 :: r, n, h, 0, b + 1, p, q, hab, hp, hq => by
    simp only [pairsM, Bool.and_eq_true] at h
    simp only [List.getElem?_cons_zero, Option.some.injEq] at hp
    subst hp
    have := pairsMW_spec h.1 b q (by simpa using hq)
    rwa [show n + 1 + b = n + (b + 1) by omega] at this
  | p0 :: r, n, h, a + 1, b + 1, p, q, hab, hp, hq => by
    simp only [pairsM, Bool.and_eq_true] at h
    have := pairsM_spec h.2 a b p q (by omega) (by simpa using hp) (by simpa using hq)
    rwa [show n + 1 + a = n + (a + 1) by omega, show n + 1 + b = n + (b + 1) by omega] at this

def effL : Eff → List (Nat × Ob)
  | .no => []
  | .new s o => [(s, o)]
  | .upd s o => [(s, o)]
def dstL (d : Option Nat) (v : AV) : List (Nat × AV) :=
  match d with
  | some d => [(d, v)]
  | none => []

def opDS (i : Nat) (gt : List Nat) (st : St) (o : Oper) (v : AV) (e : Eff) : DS :=
  ⟨i, gt ++ otmps o, touched (opd st) o, dstL o.dst v, effL e⟩

theorem opDS_app (i : Nat) (gt : List Nat) (st st1 : St) (o : Oper) (v : AV) (e : Eff) : (opDS i gt st o v e).app st1 = st1.step o.dst v e := by
  unfold DS.app opDS St.step
  congr 1
  · unfold dstL; cases o.dst <;> rfl
  · cases e <;> rfl

theorem eval_congr {st st1 : St} {xs : Array Operand} {rt : List Nat} (hs : ∀ t, t ∈ (xs.toList.filterMap fun x => match x with | .tmp t => some t | _ => none) → t ∈ rt) (h : ∀ t ∈ rt, st1.t t = st.t t) : ∀ x ∈ xs, opd st1 x = opd st x := by
  intro x hx
  cases x with
  | tmp t => exact h t (hs t (List.mem_filterMap.2 ⟨.tmp t, by simpa using hx, rfl⟩))
  | _ => rfl

/-- The guard lets the operation be done (or not). -/
def gOK (st : St) (all : Array Oper) (o : Oper) (want : Bool) (gt : List Nat) : Prop :=
  match o.guard with
  | none => want = true
  | some (j, wt) => ∃ t, dstAt all.toList j = some t ∧ t ∈ gt ∧ (st.t t = .bool (bif want then wt else !wt) ∨ (want = false ∧ st.t t = .tup []))

theorem gOK_wanted {c : Cx} {st : St} {all : Array Oper} {o : Oper} {want : Bool} {gt : List Nat} (h : gOK st all o want gt) {st1 : St} (ha : ∀ t ∈ gt, st1.t t = st.t t) {g : G} {a : Act} {w : World} (hs : SR g c.cf.N st1 a w) :
    Region.wanted o (yielded all a.tmps) = want := by
  unfold gOK at h
  unfold Region.wanted
  cases hg : o.guard with
  | none => rw [hg] at h; rw [h]
  | some p =>
    obtain ⟨j, wt⟩ := p
    rw [hg] at h
    obtain ⟨t, ht, hm, hv⟩ := h
    dsimp only
    rcases hv with hv | ⟨hw, hv⟩
    · have := yielded_of (c := c) hs ht ((ha t hm).trans hv)
      rw [this]
      cases want <;> cases wt <;> rfl
    · have := yielded_not (c := c) hs ht ((ha t hm).trans hv)
      rw [this, hw]; rfl

theorem opDS_ok {c : Cx} (hτ : TyOK c.P c.cf.τ) {all : Array Oper} {i : Nat} {o : Oper} {st : St} {gt : List Nat} {v : AV} {e : Eff} (ho : all[i]? = some o) (hg : gOK st all o true gt) (hd : okDst c.cf.N o.dst = true)
    (hl : OT.Leaf v e (opE c.cf.τ c.cf.own (opd st) st.L o)) : (opDS i gt st o v e).ok c all st := by
  intro st1 ha g a w hs hf K hK Q
  have hρ : ∀ x ∈ o.op.operands, opd st x = opd st1 x := fun x hx => (eval_congr (rt := (opDS i gt st o v e).rt) (fun t ht => List.mem_append.2 (.inr ht)) ha.1 x hx).symm
  rw [opE_congr hρ (fun s hs => (ha.2 s hs).symm)] at hl
  obtain ⟨u, w', g', hr, hR, hst⟩ := opE_ok hs.o hτ (fun x => hs.opd x) hl
  have hw := gOK_wanted (c := c) hg (fun t ht => ha.1 t (List.mem_append.2 (.inl ht))) hs
  have hsr := hs.step hst hR (okDst_lt hd)
  have hin := hf.step hst
  have hK' := hK g' (a.put o.dst u) w' (by rw [opDS_app]; exact hsr) (by rw [opDS_app]; exact hin)
  show wpOp c.P all Q i K a w
  unfold wpOp
  rw [ho]
  simp only [hw, if_true]
  left
  unfold Oper.wp
  rcases hr with hr | ⟨hr, rfl⟩
  · rw [hr]; exact hK'
  · rw [hr]; exact hK'

theorem skipDS_ok {c : Cx} {all : Array Oper} {i : Nat} {o : Oper} {st : St} {gt : List Nat} (ho : all[i]? = some o) (hg : gOK st all o false gt) (hd : okDst c.cf.N o.dst = true) :
    (⟨i, gt, [], dstL o.dst (.tup []), []⟩ : DS).ok c all st := by
  intro st1 ha g a w hs hf K hK Q
  have hw := gOK_wanted (c := c) hg (fun t ht => ha.1 t ht) hs
  have happ : (⟨i, gt, [], dstL o.dst (.tup []), []⟩ : DS).app st1 = st1.step o.dst (.tup []) .no := by
    unfold DS.app St.step dstL; cases o.dst <;> rfl
  have hK' := hK g (a.put o.dst undef) w (by rw [happ]; exact hs.step (Stp.refl hs.o) R.undef (okDst_lt hd)) (by rw [happ]; exact hf)
  show wpOp c.P all Q i K a w
  unfold wpOp
  rw [ho]
  simp only [hw, Bool.false_eq_true, if_false]
  exact hK'

/-- What is left of a region that draws, told in the text's order. -/
def Dr (c : Cx) (all : Array Oper) (k : List It) (log : List DK) (i : Nat) (l : List Oper) (st : St) : Prop :=
  ∃ ds stn, ds.map (·.i) = List.range' i l.length ∧ Chain c all ds st stn ∧ (∃ M, mchk M all.toList 0 = true ∧ pairsM M (log ++ ds.map DS.key) 0 = true) ∧ Gd c k stn

theorem Dr.nil {c : Cx} {all : Array Oper} {k : List It} {log : List DK} {i : Nat} {st : St} (h : ∃ M, mchk M all.toList 0 = true ∧ pairsM M log 0 = true) (hk : Gd c k st) : Dr c all k log i [] st :=
  ⟨[], st, rfl, rfl, by simpa using h, hk⟩
theorem Dr.cons {c : Cx} {all : Array Oper} {k : List It} {log : List DK} {o : Oper} {l : List Oper} {st : St} (s : DS) (h : s.ok c all st) (hk : Dr c all k (log ++ [s.key]) (s.i + 1) l (s.app st)) : Dr c all k log s.i (o :: l) st := by
  obtain ⟨ds, stn, h1, h2, h3, h4⟩ := hk
  exact ⟨s :: ds, stn, by simp [h1, List.range'_succ], ⟨h, h2⟩, by simpa using h3, h4⟩

theorem SR.drew {g : G} {N : Nat} {st : St} {a : Act} {w : World} (h : SR g N st a w) : SR g N st a w.drew := ⟨h.nt, h.df, fun i => (h.tm i).mono (drew_Mo g _ w), drew_OR h.o⟩

theorem pw_of {ds : List DS} {n : Nat} {an : List (List Nat)} {ms : List Nat} (hsub : ∀ i, i < ds.length → ∀ x, (ms.getD i 0).testBit x = true → x ∈ an.getD i []) (h1 : ds.map (·.i) = List.range' 0 n) (h3 : pairsM ms (ds.map DS.key) 0 = true) :
    ds.Pairwise (fun p q => p.i < q.i ∧ (apart q.key p.key = true ∨ p.i ∈ an.getD q.i [])) := by
  rw [List.pairwise_iff_getElem]
  intro a b ha hb hab
  have hlen : ds.length = n := by have := congrArg List.length h1; simpa using this
  have hi : ∀ j (hj : j < ds.length), ds[j].i = j := by
    intro j hj
    have := congrArg (fun l => l[j]?) h1
    simp only [List.getElem?_map, List.getElem?_eq_getElem hj, Option.map_some] at this
    rw [List.getElem?_range' (by omega)] at this
    simpa using this
  refine ⟨by rw [hi a ha, hi b hb]; exact hab, ?_⟩
  have := pairsM_spec h3 a b ds[a].key ds[b].key hab (by simp [ha]) (by simp [hb])
  rw [hi a ha, hi b hb]
  simp only [Nat.zero_add] at this
  exact this.imp id (hsub b hb a)

theorem Dr.fin {c : Cx} (hm : c.P.follows .mixedOrders = true) {id : Nat} {all : Array Oper} {k : List It} {st : St} (hb : backward all.toList 0 = true) (h : Dr c all k [] 0 all.toList st) : Gd c (.code (.region id all true) :: k) st := by
  obtain ⟨ds, stn, h1, h2, h3, h4⟩ := h
  intro g a w hs hf
  have hlen : ds.length = all.size := by have := congrArg List.length h1; simpa using this
  obtain ⟨M, hM, h3⟩ := h3
  have hpw := pw_of (fun i hi x hx => masks_mem hb hM (i + 1) i (Nat.lt_succ_self i) (by rw [hlen] at hi; simpa using hi) x hx) h1 (by simpa using h3)
  have hi : ∀ j, (∃ s ∈ ds, s.i = j) ↔ j < all.size := by
    intro j
    have : (∃ s ∈ ds, s.i = j) ↔ j ∈ ds.map (·.i) := by simp
    rw [this, h1]
    simp [List.mem_range']
  refine wp_region_any hm ?_
  refine any_of (c := c) (stn := stn) hb (fun g a w hs hf => h4 g a w hs hf) all.size ds (Array.replicate all.size false) st hlen hpw (fun j => ?_) (by simp) (fun j o ho hl => ?_) h2 g a w.drew hs.drew ⟨hf.f.trans (drew_Fr g w), hf.k⟩
  · rw [hi j]
    constructor
    · intro h; exact ⟨h, by simp [Array.getD_eq_getD_getElem?, h]⟩
    · intro h; exact h.1
  · exfalso
    simp only [Array.getD_eq_getD_getElem?, Array.getElem?_replicate] at hl
    split at hl <;> simp at hl

/-! the engine for such regions -/
inductive DT where
  | fail
  | br (b : Bool) (t e : DT)
  | req (p : Prop) (t : DT)
  | call (i : Nat) (o : Oper) (gt : List Nat) (f : Nat) (args : List AV) (st : St) (l : List Oper) (log : List DK)
  | fin (log : List DK) (st : St)

def OT.toD (K : AV → Eff → DT) : OT → DT
  | .fail => .fail
  | .br b x y => .br b (x.toD K) (y.toD K)
  | .req p x => .req p (x.toD K)
  | .val v e => K v e

def opD (cf : Cf) (st : St) (o : Oper) (gt : List Nat) (i : Nat) (l : List Oper) (log : List DK) (K : List DK → St → DT) : DT :=
  bif okDst cf.N o.dst then
    match o.op with
    | .call ⟨.value f, args, _⟩ =>
      match opd st f with
      | .fn g caps => .call i o gt g (args.toList.map (opd st) ++ caps) st l log
      | _ => .fail
    | _ => (opE cf.τ cf.own (opd st) st.L o).toD fun v e => K ((opDS i gt st o v e).key :: log) (st.step o.dst v e)
  else .fail

def evD (cf : Cf) (all : Array Oper) : List Oper → Nat → List DK → St → DT
  | [], _, log, st => .fin log st
  | o :: l, i, log, st =>
    match o.guard with
    | none => opD cf st o [] i l log fun log st => evD cf all l (i + 1) log st
    | some (j, want) =>
      match dstAt all.toList j with
      | some t => match st.t t with
        | .bool b => bif okDst cf.N o.dst then
            match want with
            | true => .br b (opD cf (st.set t (.bool true)) o [t] i l log fun log st => evD cf all l (i + 1) log st) (evD cf all l (i + 1) (⟨[t], [], (dstL o.dst (.tup [])).map (·.1), []⟩ :: log) ((st.set t (.bool false)).step o.dst (.tup []) .no))
            | false => .br b (evD cf all l (i + 1) (⟨[t], [], (dstL o.dst (.tup [])).map (·.1), []⟩ :: log) ((st.set t (.bool true)).step o.dst (.tup []) .no)) (opD cf (st.set t (.bool false)) o [t] i l log fun log st => evD cf all l (i + 1) log st)
          else .fail
        | .tup xs => bif okDst cf.N o.dst && xs.isEmpty then evD cf all l (i + 1) (⟨[t], [], (dstL o.dst (.tup [])).map (·.1), []⟩ :: log) (st.step o.dst (.tup []) .no) else .fail
        | _ => .fail
      | none => .fail

def DT.Ok (c : Cx) (all : Array Oper) (k : List It) : DT → Prop
  | .fail => False
  | .br b t e => (b = true → t.Ok c all k) ∧ (b = false → e.Ok c all k)
  | .req p t => p ∧ t.Ok c all k
  | .call i o gt f args st l log => all.toList.drop i = o :: l → gOK st all o true gt → ∃ s : DS, s.i = i ∧ s.ok c all st ∧ Dr c all k (log.reverse ++ [s.key]) (i + 1) l (s.app st)
  | .fin log st => (∃ M, mchk M all.toList 0 = true ∧ pairsM M log.reverse 0 = true) ∧ Gd c k st

theorem toD_ok {c : Cx} {all : Array Oper} {k : List It} {K : AV → Eff → DT} : ∀ {ot : OT}, (ot.toD K).Ok c all k → ∃ v e, ot.Leaf v e ∧ (K v e).Ok c all k
  | .fail, h => h.elim
  | .br b x y, h => by
    cases b with
    | true => obtain ⟨v, e, h1, h2⟩ := toD_ok (h.1 rfl); exact ⟨v, e, .inl ⟨rfl, h1⟩, h2⟩
    | false => obtain ⟨v, e, h1, h2⟩ := toD_ok (h.2 rfl); exact ⟨v, e, .inr ⟨rfl, h1⟩, h2⟩
  | .req p x, h => by obtain ⟨v, e, h1, h2⟩ := toD_ok h.2; exact ⟨v, e, ⟨h.1, h1⟩, h2⟩
  | .val v e, h => ⟨v, e, ⟨rfl, rfl⟩, h⟩

theorem set_eq {st : St} {t : Nat} {v : AV} (h : st.t t = v) : st.set t v = st := by
  have : upd1 st.t t v = st.t := by
    funext i
    by_cases e : i = t
    · subst e; rw [upd1_self, h]
    · rw [upd1_ne _ _ e]
  simp only [St.set, this]

theorem evD_ok {c : Cx} (hτ : TyOK c.P c.cf.τ) {all : Array Oper} {k : List It} : ∀ (l : List Oper) (i : Nat) (log : List DK) (st : St), (evD c.cf all l i log st).Ok c all k → all.toList.drop i = l → Dr c all k log.reverse i l st := by
  intro l
  induction l with
  | nil =>
    intro i log st h _
    simp only [evD] at h
    exact Dr.nil h.1 h.2
  | cons o l ih =>
    intro i log st h hdrop
    obtain ⟨hget, hdrop'⟩ := drop_get hdrop
    have hget : all[i]? = some o := by rw [← Array.getElem?_toList]; exact hget
    have hop : ∀ gt, gOK st all o true gt → (opD c.cf st o gt i l log fun log st => evD c.cf all l (i + 1) log st).Ok c all k → Dr c all k log.reverse i (o :: l) st := by
      intro gt hg h
      unfold opD at h
      cases hd : okDst c.cf.N o.dst with
      | false => rw [hd] at h; exact h.elim
      | true =>
      rw [hd] at h
      simp only [cond_true] at h
      split at h
      · split at h
        · obtain ⟨s, rfl, h1, h2⟩ := h hdrop hg
          exact Dr.cons s h1 h2
        · exact h.elim
      · obtain ⟨v, e, hl, hk⟩ := toD_ok h
        have := Dr.cons (o := o) (opDS i gt st o v e) (opDS_ok hτ hget hg hd hl) (by rw [opDS_app]; have := ih _ _ _ hk hdrop'; rwa [List.reverse_cons] at this)
        exact this
    have hskip : ∀ t, gOK st all o false [t] → okDst c.cf.N o.dst = true → (evD c.cf all l (i + 1) (⟨[t], [], (dstL o.dst (.tup [])).map (·.1), []⟩ :: log) (st.step o.dst (.tup []) .no)).Ok c all k → Dr c all k log.reverse i (o :: l) st := by
      intro t hg hd h
      have happ : (⟨i, [t], [], dstL o.dst (.tup []), []⟩ : DS).app st = st.step o.dst (.tup []) .no := by
        unfold DS.app St.step dstL; cases o.dst <;> rfl
      have := Dr.cons (o := o) (⟨i, [t], [], dstL o.dst (.tup []), []⟩ : DS) (skipDS_ok hget hg hd) (by rw [happ]; have := ih _ _ _ h hdrop'; rwa [List.reverse_cons] at this)
      exact this
    simp only [evD] at h
    split at h
    · rename_i hg
      exact hop [] (by unfold gOK; rw [hg]) h
    · rename_i j want hg
      split at h
      · rename_i t ht
        split at h
        · rename_i b hb
          cases hd : okDst c.cf.N o.dst with
          | false => rw [hd] at h; exact h.elim
          | true =>
          rw [hd] at h
          simp only [cond_true] at h
          have hgk : ∀ want', b = (bif want' then want else !want) → gOK st all o want' [t] := fun want' e => by
            unfold gOK; rw [hg]; exact ⟨t, ht, by simp, .inl (by rw [hb, e])⟩
          cases want with
          | true =>
            cases b with
            | true => have h := h.1 rfl; rw [set_eq hb] at h; exact hop [t] (hgk true rfl) h
            | false => have h := h.2 rfl; rw [set_eq hb] at h; exact hskip t (hgk false rfl) hd h
          | false =>
            cases b with
            | true => have h := h.1 rfl; rw [set_eq hb] at h; exact hskip t (hgk false rfl) hd h
            | false => have h := h.2 rfl; rw [set_eq hb] at h; exact hop [t] (hgk true rfl) h
        · rename_i xs hb
          cases xs with
          | cons x xs => simp only [List.isEmpty_cons, Bool.and_false, cond_false] at h; exact h.elim
          | nil =>
          cases hd : okDst c.cf.N o.dst with
          | false => rw [hd] at h; exact h.elim
          | true =>
          rw [hd] at h
          simp only [List.isEmpty_nil, Bool.and_true, cond_true] at h
          exact hskip t (by unfold gOK; rw [hg]; exact ⟨t, ht, by simp, .inr ⟨rfl, hb⟩⟩) hd h
        · exact h.elim
      · exact h.elim
end Go.EV
namespace Go.EV
open Go Go.RowKit
set_option linter.unusedSimpArgs false
set_option linter.unusedVariables false

def RnD (X : Sp) (all : Array Oper) (k : List It) (t : DT) : Prop := ∀ z : W0 X.bs, t.Ok (X.cx z) all k

theorem Rn.draw {X : Sp} (hτ : TyOK X.P X.cf.τ) (hm : X.P.follows .mixedOrders = true) {id : Nat} {all : Array Oper} {k : List It} {st : St} (hb : backward all.toList 0 = true)
    (h : RnD X all k (evD X.cf all all.toList 0 [] st)) : Rn X (.code (.region id all true) :: k) st := fun z =>
  Dr.fin (c := X.cx z) hm hb (evD_ok (c := X.cx z) hτ _ _ _ _ (h z) rfl)

theorem RnD.brE {X : Sp} {all : Array Oper} {k : List It} {t0 : DT} {b : Bool} {t e : DT} (h : t0 = .br b t e) (h1 : b = true → RnD X all k t) (h2 : b = false → RnD X all k e) : RnD X all k t0 :=
  h ▸ fun z => ⟨fun h => h1 h z, fun h => h2 h z⟩
theorem RnD.brT {X : Sp} {all : Array Oper} {k : List It} {t0 : DT} {t e : DT} (h : t0 = .br true t e) (h1 : RnD X all k t) : RnD X all k t0 := RnD.brE h (fun _ => h1) (fun h => nomatch h)
theorem RnD.brF {X : Sp} {all : Array Oper} {k : List It} {t0 : DT} {t e : DT} (h : t0 = .br false t e) (h1 : RnD X all k e) : RnD X all k t0 := RnD.brE h (fun h => nomatch h) (fun _ => h1)
theorem RnD.reqE {X : Sp} {all : Array Oper} {k : List It} {t0 : DT} {p : Prop} {t : DT} (h : t0 = .req p t) (h1 : p) (h2 : RnD X all k t) : RnD X all k t0 := h ▸ fun z => ⟨h1, h2 z⟩
theorem RnD.finE {X : Sp} {all : Array Oper} {k : List It} {t0 : DT} {log K : List DK} {st : St} (h : t0 = .fin log st) (hK : log = K) (M : List Nat) (hp : (mchk M all.toList 0 && pairsM M K.reverse 0) = true) (h1 : Rn X k st) : RnD X all k t0 := by
  subst h hK; exact fun z => ⟨⟨M, by simpa using hp⟩, h1 z⟩

def callDL (σ : Nat → Nat) : List (Nat × Ob) → List (Nat × Ob)
  | [] => []
  | (s, o) :: r => (σ s, renO σ o) :: callDL σ r
theorem putS_callDL (L : Obs) (σ : Nat → Nat) : ∀ l : List (Nat × Ob), putS L (callDL σ l) = callL L σ l
  | [] => rfl
  | (s, o) :: r => by simp only [callDL, putS, callL, putS_callDL L σ r]

/-- CR: what is lent and comes back as it was; CW: what is written. -/
def callDS (i : Nat) (gt : List Nat) (o : Oper) (σ : Nat → Nat) (CL CR CW : List (Nat × Ob)) (v : AV) : DS :=
  ⟨i, gt ++ otmps o, CL.map (fun p => σ p.1) ++ (CR ++ CW).map (fun p => σ p.1), dstL o.dst (ren σ v), callDL σ CW⟩
/-- As it was. -/
def Same (L : Obs) (σ : Nat → Nat) : List (Nat × Ob) → Prop
  | [] => True
  | (s, o) :: r => L (σ s) = some (renO σ o) ∧ Same L σ r
theorem Same.congr {L L' : Obs} {σ : Nat → Nat} : ∀ {T : List (Nat × Ob)}, (∀ p ∈ T, L' (σ p.1) = L (σ p.1)) → Same L σ T → Same L' σ T
  | [], _, _ => trivial
  | (s, o) :: r, h, ⟨h1, h2⟩ => ⟨by rw [h (s, o) List.mem_cons_self]; exact h1, Same.congr (fun p hp => h p (List.mem_cons_of_mem _ hp)) h2⟩
theorem callL_out {L : Obs} {σ : Nat → Nat} {i : Nat} : ∀ {T : List (Nat × Ob)}, i ∉ T.map (fun p => σ p.1) → callL L σ T i = L i
  | [], _ => rfl
  | (s, o) :: r, h => by
    simp only [List.map_cons, List.mem_cons, not_or] at h
    simp only [callL]; rw [upd1_ne _ _ h.1]; exact callL_out h.2
theorem callL_same {L : Obs} {σ : Nat → Nat} {CW : List (Nat × Ob)} : ∀ {CR : List (Nat × Ob)}, Same L σ CR → disj (CR.map fun p => σ p.1) (CW.map fun p => σ p.1) = true → callL L σ (CR ++ CW) = callL L σ CW
  | [], _, _ => rfl
  | (s, o) :: r, ⟨h1, h2⟩, hd => by
    have hd2 : disj (r.map fun p => σ p.1) (CW.map fun p => σ p.1) = true := by
      simp only [disj, List.map_cons, List.all_cons, Bool.and_eq_true] at hd; exact hd.2
    have ih := callL_same h2 hd2
    simp only [List.cons_append, callL]
    rw [ih]
    funext i
    by_cases e : i = σ s
    · subst e; rw [upd1_self, callL_out (disj_spec hd (by simp)), h1]
    · rw [upd1_ne _ _ e]

theorem callDS_app (i : Nat) (gt : List Nat) (o : Oper) (σ : Nat → Nat) (CL CR CW : List (Nat × Ob)) (v : AV) (st : St) (hs : Same st.L σ CR) (hd : disj (CR.map fun p => σ p.1) (CW.map fun p => σ p.1) = true) :
    (callDS i gt o σ CL CR CW v).app st = ⟨putO st.t o.dst (ren σ v), callL st.L σ (CR ++ CW)⟩ := by
  rw [callL_same hs hd]
  unfold DS.app callDS
  congr 1
  · unfold dstL putO; cases o.dst <;> rfl
  · exact putS_callDL _ _ _

theorem objsOK_congr {L L' : Obs} {σ : Nat → Nat} : ∀ {T : List (Nat × Ob)}, (∀ p ∈ T, L' (σ p.1) = L (σ p.1)) → objsOK L σ T → objsOK L' σ T
  | [], _, _ => trivial
  | (s, o) :: r, h, ⟨h1, h2⟩ => ⟨by rw [h (s, o) List.mem_cons_self]; exact h1, objsOK_congr (fun p hp => h p (List.mem_cons_of_mem _ hp)) h2⟩
theorem newOK_congr {L L' : Obs} {σ : Nat → Nat} {D : Nat → Bool} : ∀ {T : List (Nat × Ob)}, (∀ p ∈ T, L' (σ p.1) = L (σ p.1)) → newOK L' σ D T = newOK L σ D T
  | [], _ => rfl
  | (s, o) :: r, h => by simp only [newOK]; rw [h (s, o) List.mem_cons_self, newOK_congr fun p hp => h p (List.mem_cons_of_mem _ hp)]

/-- A call within a region that draws its order. -/
theorem RnD.callE {X : Sp} {all : Array Oper} {k : List It} {t0 : DT} {i : Nat} {o : Oper} {gt : List Nat} {f : FuncId} {args : List AV} {st : St} {l : List Oper} {log : List DK} {CL CR CW : List (Nat × Ob)} {cargs : List AV} {v : AV}
    (h0 : t0 = .call i o gt f args st l log) (hct : Ct X.P X.bs f cargs (ofL CL) v (ofL (CR ++ CW))) (σ : Nat → Nat) (hsame : Same st.L σ CR) (hdis : disj (CR.map fun p => σ p.1) (CW.map fun p => σ p.1) = true)
    (ho : ∃ fo args0 ts caps, o.op = .call ⟨.value fo, args0, ts⟩ ∧ opd st fo = .fn f caps ∧ args = args0.toList.map (opd st) ++ caps)
    (hargs : LeL args (renL σ cargs)) (hobj : objsOK st.L σ CL) (hchk : callChk X.cf.N o.dst st.L σ CL (CR ++ CW) cargs v = true)
    (h : RnD X all k (evD X.cf all l (i + 1) ((callDS i gt o σ CL CR CW v).key :: log) ⟨putO st.t o.dst (ren σ v), callL st.L σ (CR ++ CW)⟩)) (hτ : TyOK X.P X.cf.τ) : RnD X all k t0 := by
  subst h0
  intro z hdrop hg
  obtain ⟨hget, hdrop'⟩ := drop_get hdrop
  have hget : all[i]? = some o := by rw [← Array.getElem?_toList]; exact hget
  refine ⟨callDS i gt o σ CL CR CW v, rfl, ?_, ?_⟩
  · intro st1 ha g a w hs hf K hK Q
    obtain ⟨fo, args0, ts, caps, e1, e2, e3⟩ := ho
    have hops : ∀ x ∈ o.op.operands, opd st1 x = opd st x := eval_congr (rt := (callDS i gt o σ CL CR CW v).rt) (fun t ht => List.mem_append.2 (.inr ht)) ha.1
    have hL1 : ∀ p ∈ CL, st1.L (σ p.1) = st.L (σ p.1) := fun p hp => ha.2 _ (List.mem_append.2 (.inl (List.mem_map.2 ⟨p, hp, rfl⟩)))
    have hL2 : ∀ p ∈ CR ++ CW, st1.L (σ p.1) = st.L (σ p.1) := fun p hp => ha.2 _ (List.mem_append.2 (.inr (List.mem_map.2 ⟨p, hp, rfl⟩)))
    have hf1 : opd st1 fo = .fn f caps := by rw [hops fo (by rw [e1]; simp [Op.operands, Call.operands]), e2]
    have hfv := hs.opd fo
    rw [hf1] at hfv
    obtain ⟨cs, hfc, hcl, hcr⟩ := hfv.fn_inv
    have hargs1 : args = args0.toList.map (opd st1) ++ caps := by
      rw [e3]; congr 1
      exact List.map_congr_left fun x hx => (hops x (by rw [e1]; simp [Op.operands, Call.operands]; exact .inr (by simpa using hx))).symm
    have hw := gOK_wanted (c := X.cx z) hg (fun t ht => ha.1 t (List.mem_append.2 (.inl ht))) hs
    show wpOp X.P all Q i K a w
    unfold wpOp
    rw [hget]
    simp only [hw, if_true]
    left
    refine Ent.upon (run_call e1 hfc w) ?_
    refine (call_core (c := X.cx z) (d := o.dst) (st := st1) hct σ hargs (objsOK_congr hL1 hobj) ?_ hs hf (vs := args0.map a.eval ++ cs) ?_ (fun j hj => ?_)).mono fun u w1 hK1 => ?_
    · unfold callChk at hchk ⊢
      rw [newOK_congr hL2]; exact hchk
    · rw [hargs1]; simp [hcl]
    · rw [hargs1] at hj ⊢
      simp only [List.getD, Array.getD_eq_getD_getElem?, List.getElem?_append, Array.getElem?_append, List.length_map, Array.size_map, Array.length_toList]
      by_cases hj2 : j < args0.size
      · rw [if_pos hj2, if_pos hj2]
        simp [hj2]
        exact hs.opd _
      · rw [if_neg hj2, if_neg hj2]
        have hj3 : j - args0.size < caps.length := by
          simp at hj; omega
        have := hcr _ hj3
        simpa [List.getD, Array.getD_eq_getD_getElem?] using this
    · obtain ⟨g2, h1, h2⟩ := hK1
      have hsame1 : Same st1.L σ CR := hsame.congr fun p hp => hL2 p (List.mem_append.2 (.inl hp))
      exact hK g2 _ w1 (by rw [callDS_app _ _ _ _ _ _ _ _ _ hsame1 hdis]; exact h1) (by rw [callDS_app _ _ _ _ _ _ _ _ _ hsame1 hdis]; exact h2)
  · rw [callDS_app _ _ _ _ _ _ _ _ _ hsame hdis]
    have := evD_ok (c := X.cx z) hτ _ _ _ _ (h z) hdrop'
    rwa [List.reverse_cons] at this
end Go.EV
namespace Go.EV
open Go Go.RowKit
set_option linter.unusedSimpArgs false
set_option linter.unusedVariables false

/-! ### the code and a Lean function, side by side -/
structure Fam (ρ : Type) where
  P : Program
  cf : Cf
  fn : Func
  L0 : List (Nat × Ob)
  V : ρ → AV
  O : ρ → List (Nat × Ob)
  hτ : TyOK P cf.τ
  hm : P.follows .mixedOrders = true
  bs : Bs

variable {ρ : Type} {Y : Fam ρ}
def Fam.sp (Y : Fam ρ) (r : ρ) : Sp := ⟨Y.P, Y.cf, Y.fn, Y.L0, Y.V r, Y.O r, Y.bs⟩
/-- Where the Lean function tells r, the code comes to r. -/
def RT (Y : Fam ρ) (t : Tree) (sh : Option ρ) : Prop := ∀ r, sh = some r → RnT (Y.sp r) t
def RS (Y : Fam ρ) (k : List It) (st : St) (sh : Option ρ) : Prop := ∀ r, sh = some r → Rn (Y.sp r) k st
def RD (Y : Fam ρ) (all : Array Oper) (k : List It) (t : DT) (sh : Option ρ) : Prop := ∀ r, sh = some r → RnD (Y.sp r) all k t

theorem RS.go {k : List It} {st : St} {sh : Option ρ} (h : RT Y (evT Y.cf 100000 k st) sh) : RS Y k st sh := fun r hr => Rn.go (X := Y.sp r) Y.hτ (h r hr)
theorem RS.none {k : List It} {st : St} : RS Y k st none := fun r hr => nomatch hr
theorem RT.none {t : Tree} : RT Y t none := fun r hr => nomatch hr
theorem RD.none {all : Array Oper} {k : List It} {t : DT} : RD Y all k t none := fun r hr => nomatch hr

theorem RT.br {t0 : Tree} {p : Prop} [Decidable p] {t e : Tree} {A B : Option ρ} (h : t0 = .br (decide p) t e) (h1 : p → RT Y t A) (h2 : ¬ p → RT Y e B) : RT Y t0 (if p then A else B) := fun r hr =>
  RnT.brE h (fun c => by have c := of_decide_eq_true c; rw [if_pos c] at hr; exact h1 c r hr) (fun c => by have c := of_decide_eq_false c; rw [if_neg c] at hr; exact h2 c r hr)
theorem RT.brN {t0 : Tree} {p : Prop} [Decidable p] {t e : Tree} {A B : Option ρ} (h : t0 = .br (!decide p) t e) (h1 : p → RT Y e A) (h2 : ¬ p → RT Y t B) : RT Y t0 (if p then A else B) := fun r hr =>
  RnT.brE h (fun c => by have c := of_decide_eq_false (by simpa using c); rw [if_neg c] at hr; exact h2 c r hr) (fun c => by have c := of_decide_eq_true (p := p) (by simpa using c); rw [if_pos c] at hr; exact h1 c r hr)
theorem RT.brB {t0 : Tree} {b : Bool} {t e : Tree} {A B : Option ρ} (h : t0 = .br b t e) (h1 : b = true → RT Y t A) (h2 : b = false → RT Y e B) : RT Y t0 (if b = true then A else B) := fun r hr =>
  RnT.brE h (fun c => by rw [if_pos c] at hr; exact h1 c r hr) (fun c => by rw [if_neg (by rw [c]; decide)] at hr; exact h2 c r hr)
theorem RT.brBN {t0 : Tree} {b : Bool} {t e : Tree} {A B : Option ρ} (h : t0 = .br (!b) t e) (h1 : b = true → RT Y e A) (h2 : b = false → RT Y t B) : RT Y t0 (if b = true then A else B) := fun r hr =>
  RnT.brE h (fun c => by have c : b = false := by simpa using c
                         rw [if_neg (by rw [c]; decide)] at hr; exact h2 c r hr) (fun c => by have c : b = true := by simpa using c
                                                                                              rw [if_pos c] at hr; exact h1 c r hr)
theorem RT.brT {t0 : Tree} {t e : Tree} {A : Option ρ} (h : t0 = .br true t e) (h1 : RT Y t A) : RT Y t0 A := fun r hr => RnT.brT h (h1 r hr)
theorem RT.brF {t0 : Tree} {t e : Tree} {A : Option ρ} (h : t0 = .br false t e) (h1 : RT Y e A) : RT Y t0 A := fun r hr => RnT.brF h (h1 r hr)
theorem RT.sure {t0 : Tree} {b : Bool} {t e : Tree} {A : Option ρ} (h : t0 = .br b t e) (hb : b = true) (h1 : RT Y t A) : RT Y t0 A := by subst hb; exact RT.brT h h1
theorem RT.not {t0 : Tree} {b : Bool} {t e : Tree} {A : Option ρ} (h : t0 = .br b t e) (hb : b = false) (h1 : RT Y e A) : RT Y t0 A := by subst hb; exact RT.brF h h1
theorem RT.req {t0 : Tree} {p : Prop} {t : Tree} {A : Option ρ} (h : t0 = .req p t) (hp : p) (h1 : RT Y t A) : RT Y t0 A := fun r hr => RnT.reqE h hp (h1 r hr)
theorem RT.nilq {t0 : Tree} {n : Nat} {t e : Tree} {A : Option ρ} (h : t0 = .nilq n t e) (h1 : n = 0 → RT Y t A) (h2 : RT Y e A) : RT Y t0 A := fun r hr => RnT.nilqE h (fun hn => h1 hn r hr) (h2 r hr)
/-- What all of some ways tell. -/
def altO {ρ : Type} [DecidableEq ρ] (n : Nat) (A : Nat → Option ρ) (B : Option ρ) : Option ρ := if n = 0 then B else if (List.range n).all fun j => decide (A j = A 0) then A 0 else Option.none
theorem altO_zero {ρ : Type} [DecidableEq ρ] {n : Nat} {A : Nat → Option ρ} {B : Option ρ} {r : ρ} (h : altO n A B = some r) (hn : n = 0) : B = some r := by
  unfold altO at h
  rwa [if_pos hn] at h
theorem altO_some {ρ : Type} [DecidableEq ρ] {n : Nat} {A : Nat → Option ρ} {B : Option ρ} {r : ρ} (h : altO n A B = some r) {j : Nat} (hj : j < n) : A j = some r := by
  unfold altO at h
  rw [if_neg (by omega)] at h
  split at h
  · rename_i c
    rw [List.all_eq_true] at c
    exact (of_decide_eq_true (c j (List.mem_range.2 hj))).trans h
  · cases h
theorem altO_of {ρ : Type} [DecidableEq ρ] {n : Nat} {A : Nat → Option ρ} {B : Option ρ} {r : ρ} (h0 : n = 0 → B = some r) (h1 : ∀ j, j < n → A j = some r) : altO n A B = some r := by
  unfold altO
  by_cases c : n = 0
  · rw [if_pos c]; exact h0 c
  · rw [if_neg c, if_pos]
    · exact h1 0 (by omega)
    · rw [List.all_eq_true]
      intro j hj
      have := List.mem_range.1 hj
      exact decide_eq_true ((h1 j this).trans (h1 0 (by omega)).symm)
theorem RT.alt [DecidableEq ρ] {t0 : Tree} {n : Nat} {p : Nat → Prop} {f : Nat → Tree} {z : Tree} {A : Nat → Option ρ} {B : Option ρ} (h : t0 = .alt n p f z) (h1 : n = 0 → RT Y z B) (h2 : ∀ j, j < n → p j → RT Y (f j) (A j)) : RT Y t0 (altO n A B) := fun r hr =>
  RnT.altE h (fun hn => h1 hn r (altO_zero hr hn)) (fun j hj hp => h2 j hj hp r (altO_some hr hj))
theorem RT.conv {t0 : Tree} {A : Option ρ} (B : Option ρ) (h : A = B) (h1 : RT Y t0 B) : RT Y t0 A := h ▸ h1
theorem RT.goto {t0 : Tree} {k : List It} {st : St} {A : Option ρ} (h : t0 = .goto k st) (h1 : RS Y k st A) : RT Y t0 A := fun r hr => RnT.gotoE h (h1 r hr)
theorem RT.done {t0 : Tree} {st : St} {xs : List AV} {r : ρ} (h : t0 = .done st) (hx : resL Y.cf.τ st Y.fn.results.toList = some xs) (hv : Le (mkRes xs) (Y.V r)) (hL : HasL st.L (Y.O r))
    (hc : (cl (domB (Y.O r)) (Y.V r) && clOs (domB (Y.O r)) (Y.O r)) = true) (h0 : ∀ s, (ofL Y.L0 s).isSome = true → domB (Y.O r) s = true) : RT Y t0 (some r) := fun r' hr => by
  cases hr; exact RnT.doneE (X := Y.sp r) Y.hτ h hx hv hL hc h0
theorem RT.call {t0 : Tree} {f : FuncId} {args : List AV} {st : St} {d : Option Nat} {k : List It} {ρ' : Type} {sh : Option ρ'} {cont : ρ' → Option ρ} {CL : List (Nat × Ob)} {CL' : ρ' → List (Nat × Ob)} {cargs : List AV} {v : ρ' → AV}
    (h : t0 = .call f args st d k) (hct : ∀ r, sh = some r → Ct Y.P Y.bs f cargs (ofL CL) (v r) (ofL (CL' r))) (σ : Nat → Nat) (hargs : LeL args (renL σ cargs)) (hobj : objsOK st.L σ CL)
    (hchk : ∀ r, callChk Y.cf.N d st.L σ CL (CL' r) cargs (v r) = true) (h1 : ∀ r, RS Y k ⟨putO st.t d (ren σ (v r)), callL st.L σ (CL' r)⟩ (cont r)) : RT Y t0 (sh.bind cont) := fun r hr => by
  obtain ⟨r', e1, e2⟩ := Option.bind_eq_some_iff.1 hr
  exact RnT.callE h (hct r' e1) σ hargs hobj (hchk r') (h1 r' r e2)
theorem RT.call0 {t0 : Tree} {f : FuncId} {args : List AV} {st : St} {d : Option Nat} {k : List It} {ρ' : Type} {sh : Option ρ'} {cont : ρ' → Option ρ} {cargs : List AV} {v : ρ' → AV}
    (h : t0 = .call f args st d k) (hct : ∀ r, sh = some r → Ct Y.P Y.bs f cargs (ofL []) (v r) (ofL [])) (hargs : LeL args (renL id cargs))
    (hchk : ∀ r, callChk Y.cf.N d (ofL []) id [] [] cargs (v r) = true) (h1 : ∀ r, RS Y k ⟨putO st.t d (ren id (v r)), st.L⟩ (cont r)) : RT Y t0 (sh.bind cont) := fun r hr => by
  obtain ⟨r', e1, e2⟩ := Option.bind_eq_some_iff.1 hr
  exact RnT.call0E h (hct r' e1) hargs (hchk r') (h1 r' r e2)

theorem RS.draw {id : Nat} {all : Array Oper} {k : List It} {st : St} {sh : Option ρ} (hb : backward all.toList 0 = true) (h : RD Y all k (evD Y.cf all all.toList 0 [] st) sh) : RS Y (.code (.region id all true) :: k) st sh :=
  fun r hr => Rn.draw (X := Y.sp r) Y.hτ Y.hm hb (h r hr)
theorem Rn.region {X : Sp} {id : Nat} {all : Array Oper} {k : List It} {st : St} (h : Rn X (.ops all.toList 0 all :: k) st) : Rn X (.code (.region id all false) :: k) st := fun z g a w hs hf => by
  refine wp_region ?_
  have := h z g a w hs hf rfl
  rw [List.range_eq_range']
  simpa using this
theorem RS.region {id : Nat} {all : Array Oper} {k : List It} {st : St} {sh : Option ρ} (h : RS Y (.ops all.toList 0 all :: k) st sh) : RS Y (.code (.region id all false) :: k) st sh := fun r hr => Rn.region (h r hr)
theorem RS.weak {k : List It} {st : St} {sh : Option ρ} (T : List (Nat × AV)) (T' : List (Nat × Ob)) (hT : HasT st.t T) (hL : HasL st.L T') (hc : (clTs (domB T') T && clOs (domB T') T') = true)
    (h0 : ∀ s, (ofL Y.L0 s).isSome = true → domB T' s = true) (h : RS Y k ⟨ofT T, ofL T'⟩ sh) : RS Y k st sh := fun r hr z => Gd.weak T T' hT hL hc h0 (h r hr z)

/-- One slot, or one object, told otherwise. -/
theorem Gd.slot {c : Cx} {k : List It} {st : St} (d : Nat) (v : AV) (hv : Le (st.t d) v) (h : Gd c k ⟨upd1 st.t d v, st.L⟩) : Gd c k st := fun g a w hs hf =>
  h g a w ⟨hs.nt, hs.df, fun i => by
    show R g _ w (upd1 st.t d v i) _
    by_cases e : i = d
    · subst e; rw [upd1_self]; exact hv _ _ _ _ (hs.tm i)
    · rw [upd1_ne _ _ e]; exact hs.tm i, hs.o⟩ hf
theorem upd1_sz {L : Obs} {s : Nat} {o1 o : Ob} (h1 : L s = some o1) (h2 : LeO o1 o) : szf (upd1 L s (some o)) = szf L := by
  funext i
  by_cases e : i = s
  · subst e; simp [szf, upd1_self, h1, h2.1]
  · simp [szf, upd1_ne _ _ e]
theorem Gd.obj {c : Cx} {k : List It} {st : St} (s : Nat) (o : Ob) (ho : ∃ o1, st.L s = some o1 ∧ LeO o1 o) (h : Gd c k ⟨st.t, upd1 st.L s (some o)⟩) : Gd c k st := fun g a w hs hf => by
  obtain ⟨o1, h1, h2⟩ := ho
  have hsz := upd1_sz h1 h2
  refine h g a w ⟨hs.nt, hs.df, fun i => by show R g (szf (upd1 st.L s (some o))) w _ _; rw [hsz]; exact hs.tm i, ⟨fun i o' ho' => ?_, fun i b κ hb => ?_, hs.o.inj, hs.o.fz⟩⟩ ⟨hf.f, fun i hi => ?_⟩
  · show ObR g (szf (upd1 st.L s (some o))) w i o'
    rw [hsz]
    by_cases e : i = s
    · subst e
      have : o' = o := by have : upd1 st.L i (some o) i = some o' := ho'; rw [upd1_self] at this; exact (Option.some.inj this).symm
      subst this
      exact h2.2 _ _ _ _ (hs.o.ob i o1 h1)
    · have : st.L i = some o' := by have : upd1 st.L s (some o) i = some o' := ho'; rwa [upd1_ne _ _ e] at this
      exact hs.o.ob i o' this
  · refine ⟨?_, (hs.o.own i b κ hb).2⟩
    show (upd1 st.L s (some o) i).isSome = true
    by_cases e : i = s
    · subst e; rw [upd1_self]; rfl
    · rw [upd1_ne _ _ e]; exact (hs.o.own i b κ hb).1
  · obtain ⟨k1, k2⟩ := hf.k i hi
    show (upd1 st.L s (some o) i).isSome = true ∧ ((szf (upd1 st.L s (some o)) i = _ ∧ _) ∨ _ < szf (upd1 st.L s (some o)) i)
    rw [hsz]
    refine ⟨?_, k2⟩
    by_cases e : i = s
    · subst e; rw [upd1_self]; rfl
    · rw [upd1_ne _ _ e]; exact k1
theorem RS.slot {k : List It} {st : St} {sh : Option ρ} (d : Nat) (v : AV) (hv : Le (st.t d) v) (h : RS Y k ⟨upd1 st.t d v, st.L⟩ sh) : RS Y k st sh := fun r hr z => Gd.slot d v hv (h r hr z)
theorem RS.obj {k : List It} {st : St} {sh : Option ρ} (s : Nat) (o : Ob) (ho : ∃ o1, st.L s = some o1 ∧ LeO o1 o) (h : RS Y k ⟨st.t, upd1 st.L s (some o)⟩ sh) : RS Y k st sh := fun r hr z => Gd.obj s o ho (h r hr z)

theorem RD.br {all : Array Oper} {k : List It} {t0 : DT} {p : Prop} [Decidable p] {t e : DT} {A B : Option ρ} (h : t0 = .br (decide p) t e) (h1 : p → RD Y all k t A) (h2 : ¬ p → RD Y all k e B) : RD Y all k t0 (if p then A else B) := fun r hr =>
  RnD.brE h (fun c => by have c := of_decide_eq_true c; rw [if_pos c] at hr; exact h1 c r hr) (fun c => by have c := of_decide_eq_false c; rw [if_neg c] at hr; exact h2 c r hr)
theorem RD.brN {all : Array Oper} {k : List It} {t0 : DT} {p : Prop} [Decidable p] {t e : DT} {A B : Option ρ} (h : t0 = .br (!decide p) t e) (h1 : p → RD Y all k e A) (h2 : ¬ p → RD Y all k t B) : RD Y all k t0 (if p then A else B) := fun r hr =>
  RnD.brE h (fun c => by have c := of_decide_eq_false (by simpa using c); rw [if_neg c] at hr; exact h2 c r hr) (fun c => by have c := of_decide_eq_true (p := p) (by simpa using c); rw [if_pos c] at hr; exact h1 c r hr)
theorem RD.brB {all : Array Oper} {k : List It} {t0 : DT} {b : Bool} {t e : DT} {A B : Option ρ} (h : t0 = .br b t e) (h1 : b = true → RD Y all k t A) (h2 : b = false → RD Y all k e B) : RD Y all k t0 (if b = true then A else B) := fun r hr =>
  RnD.brE h (fun c => by rw [if_pos c] at hr; exact h1 c r hr) (fun c => by rw [if_neg (by rw [c]; decide)] at hr; exact h2 c r hr)
theorem RD.brBN {all : Array Oper} {k : List It} {t0 : DT} {b : Bool} {t e : DT} {A B : Option ρ} (h : t0 = .br (!b) t e) (h1 : b = true → RD Y all k e A) (h2 : b = false → RD Y all k t B) : RD Y all k t0 (if b = true then A else B) := fun r hr =>
  RnD.brE h (fun c => by have c : b = false := by simpa using c
                         rw [if_neg (by rw [c]; decide)] at hr; exact h2 c r hr) (fun c => by have c : b = true := by simpa using c
                                                                                              rw [if_pos c] at hr; exact h1 c r hr)
theorem RD.brT {all : Array Oper} {k : List It} {t0 : DT} {t e : DT} {A : Option ρ} (h : t0 = .br true t e) (h1 : RD Y all k t A) : RD Y all k t0 A := fun r hr => RnD.brT h (h1 r hr)
theorem RD.brF {all : Array Oper} {k : List It} {t0 : DT} {t e : DT} {A : Option ρ} (h : t0 = .br false t e) (h1 : RD Y all k e A) : RD Y all k t0 A := fun r hr => RnD.brF h (h1 r hr)
theorem RD.sure {all : Array Oper} {k : List It} {t0 : DT} {b : Bool} {t e : DT} {A : Option ρ} (h : t0 = .br b t e) (hb : b = true) (h1 : RD Y all k t A) : RD Y all k t0 A := by subst hb; exact RD.brT h h1
theorem RD.not {all : Array Oper} {k : List It} {t0 : DT} {b : Bool} {t e : DT} {A : Option ρ} (h : t0 = .br b t e) (hb : b = false) (h1 : RD Y all k e A) : RD Y all k t0 A := by subst hb; exact RD.brF h h1
theorem RD.req {all : Array Oper} {k : List It} {t0 : DT} {p : Prop} {t : DT} {A : Option ρ} (h : t0 = .req p t) (hp : p) (h1 : RD Y all k t A) : RD Y all k t0 A := fun r hr => RnD.reqE h hp (h1 r hr)
theorem RD.fin {all : Array Oper} {k : List It} {t0 : DT} {log : List DK} {st : St} {A : Option ρ} (K : List DK) (M : List Nat) (h : t0 = .fin log st) (hK : log = K) (hp : (mchk M all.toList 0 && pairsM M K.reverse 0) = true) (h1 : RS Y k st A) : RD Y all k t0 A := fun r hr => RnD.finE h hK M hp (h1 r hr)
theorem RD.call {all : Array Oper} {k : List It} {t0 : DT} {i : Nat} {o : Oper} {gt : List Nat} {f : FuncId} {args : List AV} {st : St} {l : List Oper} {log : List DK} {ρ' : Type} {sh : Option ρ'} {cont : ρ' → Option ρ} {CL CR : List (Nat × Ob)} {CW : ρ' → List (Nat × Ob)}
    {cargs : List AV} {v : ρ' → AV} (h : t0 = .call i o gt f args st l log) (hct : ∀ r, sh = some r → Ct Y.P Y.bs f cargs (ofL CL) (v r) (ofL (CR ++ CW r))) (σ : Nat → Nat) (hsame : Same st.L σ CR) (hdis : ∀ r, disj (CR.map fun p => σ p.1) ((CW r).map fun p => σ p.1) = true)
    (ho : ∃ fo args0 ts caps, o.op = .call ⟨.value fo, args0, ts⟩ ∧ opd st fo = .fn f caps ∧ args = args0.toList.map (opd st) ++ caps)
    (hargs : LeL args (renL σ cargs)) (hobj : objsOK st.L σ CL) (hchk : ∀ r, callChk Y.cf.N o.dst st.L σ CL (CR ++ CW r) cargs (v r) = true)
    (h1 : ∀ r, RD Y all k (evD Y.cf all l (i + 1) ((callDS i gt o σ CL CR (CW r) (v r)).key :: log) ⟨putO st.t o.dst (ren σ (v r)), callL st.L σ (CR ++ CW r)⟩) (cont r)) : RD Y all k t0 (sh.bind cont) := fun r hr => by
  obtain ⟨r', e1, e2⟩ := Option.bind_eq_some_iff.1 hr
  exact RnD.callE (X := Y.sp r) h (hct r' e1) σ hsame (hdis r') ho hargs hobj (hchk r') (h1 r' r e2) Y.hτ

/-- A function's contract out of its body. -/
theorem Ct.of {f : FuncId} {args : List AV} {code : Code} {sh : Option ρ} (hfn : Y.P.funcs[f]? = some Y.fn) (hb : Y.fn.body = some code)
    (hc : ∀ (vs : Array Value) (w : World), (callFunc f vs).run Y.P w = .ok (.enter f vs) w) (hN : Nat.ble args.length Y.fn.ntmps = true) (hcf : Y.cf.N = Y.fn.ntmps)
    (h : RS Y [.code code] ⟨fun i => args.getD i .bad, ofL Y.L0⟩ sh) (r : ρ) (hr : sh = some r) : Ct Y.P Y.bs f args (ofL Y.L0) (Y.V r) (ofL (Y.O r)) := by
  have h' := h r hr
  have e : Y.cf = ⟨Y.cf.τ, Y.cf.own, Y.fn.ntmps, Y.cf.cut⟩ := by rw [← hcf]
  refine Ct.body (τ := Y.cf.τ) (own := Y.cf.own) (cut := Y.cf.cut) hfn hb hc (Nat.le_of_ble_eq_true hN) ?_
  unfold Fam.sp at h'
  rw [e] at h'
  exact h'

/-! ### places in the code -/
def heads : Code → List It → List (List It)
  | .seq a b, k => heads a (.code b :: k) ++ heads b k
  | .cond _ a b, k => heads a k ++ heads b k
  | .block id c, k => heads c (.blk id :: k)
  | .loop c, k => (.code c :: .lp c :: k) :: heads c (.lp c :: k)
  | _, _ => []
def regs (id : Nat) : Code → List It → List (List It)
  | .seq a b, k => regs id a (.code b :: k) ++ regs id b k
  | .cond _ a b, k => regs id a k ++ regs id b k
  | .block i c, k => regs id c (.blk i :: k)
  | .loop c, k => regs id c (.lp c :: k)
  | .region i ops d, k => bif Nat.beq i id then [.code (.region i ops d) :: k] else []
  | _, _ => []
def Func.head (f : Func) (n : Nat) : List It := match f.body with
  | some c => (heads c []).getD n []
  | none => []
def Func.reg (f : Func) (id : Nat) : List It := match f.body with
  | some c => (regs id c []).getD 0 []
  | none => []

/-! ### lists as slices -/
structure Enc (α : Type) where
  w : Nat
  d : α
  c : α → Nat → AV
def eI : Enc Int := ⟨1, 0, fun x _ => .int .i64 x⟩
def eB : Enc Bool := ⟨1, false, fun x _ => .bool x⟩
def eS : Enc ByteArray := ⟨1, .empty, fun x _ => .str x⟩
def eU : Enc Int := ⟨1, 0, fun x _ => .int .u8 x⟩
def rep {α : Type} (E : Enc α) (l : List α) : Nat → Nat → AV := fun i j => E.c (l.getD i E.d) j
def sq {α : Type} (E : Enc α) (l : List α) : AV := .sl l.length E.w (rep E l)
def bufE {α : Type} (E : Enc α) (l : List α) : Ob := .buf l.length E.w (rep E l)

/-- The string of bytes. -/
def bytesE (l : List Int) : ByteArray := strOfNums l
theorem bytes_rep (l : List Int) (f : Nat → Nat → AV) (h : ∀ i, i < l.length → f i 0 = .int .u8 (l.getD i 0)) : strOfNums ((List.range l.length).map fun i => nOf (f i 0)) = bytesE l := by
  unfold bytesE
  congr 1
  refine List.ext_getElem (by simp) fun i h1 h2 => ?_
  simp only [List.getElem_map, List.getElem_range]
  rw [h i h2]
  simp [nOf, List.getD, h2]
section
variable {α : Type} {E : Enc α}
/-- Cells that are a list's. -/
def Cells (E : Enc α) (l : List α) (cs : List AV) : Prop := ∀ i j, i < l.length → j < E.w → cs.getD (i * E.w + j) .bad = rep E l i j
theorem Le.lit {l : List α} {cs : List AV} (h : Cells E l cs) : Le (.sl l.length E.w fun i j => cs.getD (i * E.w + j) .bad) (sq E l) := Le.sl_eq rfl fun i j hi hj => h i j hi hj
theorem LeO.lit {l : List α} {cs : List AV} (h : Cells E l cs) : LeO (.buf l.length E.w fun i j => cs.getD (i * E.w + j) .bad) (bufE E l) := LeO.buf rfl fun i j hi hj => h i j hi hj
theorem Le.part {l : List α} {a b : Int} (h0 : 0 ≤ a) (h1 : a ≤ b) (h2 : b ≤ (l.length : Int)) : Le (.sl (b.toNat - a.toNat) E.w fun i j => rep E l (i + a.toNat) j) (sq E ((l.take b.toNat).drop a.toNat)) := by
  refine Le.sl_eq (by simp; omega) fun i j hi hj => ?_
  unfold rep
  have : i + a.toNat < b.toNat := by omega
  simp only [List.getD, List.getElem?_drop, List.getElem?_take]
  rw [if_pos (by omega), Nat.add_comm]
theorem LeO.app {l m : List α} {f2 : Nat → Nat → AV} (h : ∀ i j, i < m.length → j < E.w → f2 i j = rep E m i j) : LeO (.buf (l.length + m.length) E.w fun i j => bif Nat.blt i l.length then rep E l i j else f2 (i - l.length) j) (bufE E (l ++ m)) := by
  refine LeO.buf (by simp) fun i j hi hj => ?_
  cases hb : Nat.blt i l.length with
  | true =>
    have := Nat.blt_eq.mp hb
    simp [rep, List.getD, List.getElem?_append_left this]
  | false =>
    have : ¬ i < l.length := fun h' => by rw [Nat.blt_eq.mpr h'] at hb; cases hb
    show f2 (i - l.length) j = _
    rw [h _ j (by omega) hj]
    simp [rep, List.getD, List.getElem?_append_right (Nat.le_of_not_lt this)]
theorem LeO.app0 {m : List α} {f2 : Nat → Nat → AV} (h : ∀ i j, i < m.length → j < E.w → f2 i j = rep E m i j) : LeO (.buf m.length E.w f2) (bufE E m) := LeO.buf rfl h
theorem LeO.set {l : List α} {k off : Nat} {ys : List AV} {x : α} (hk : k < l.length) (h : ∀ j, j < E.w → (bif Nat.ble off j && Nat.blt j (off + ys.length) then ys.getD (j - off) .bad else E.c (l.getD k E.d) j) = E.c x j) :
    LeO (.buf l.length E.w (putF (rep E l) k off ys)) (bufE E (l.set k x)) := by
  refine LeO.buf (by simp) fun i j hi hj => ?_
  unfold putF
  by_cases e : i = k
  · subst e
    rw [beq_self, Bool.true_and]
    have : rep E (l.set i x) i j = E.c x j := by simp [rep, List.getD, hk]
    rw [this]; exact h j hj
  · rw [beq_ne e, Bool.false_and]
    have : rep E (l.set k x) i j = rep E l i j := by simp [rep, List.getD, List.getElem?_set_ne (Ne.symm e)]
    rw [this]; rfl
end
end Go.EV
namespace Go.EV
open Go Go.RowKit
set_option linter.unusedSimpArgs false
set_option linter.unusedVariables false

/-- Slots of a pattern: told as they are, or as a view of what is never written again. -/
def HasF (t : Nat → AV) (s n w : Nat) (f : Nat → Nat → AV) : List (Nat × AV) → Prop
  | [] => True
  | (i, v) :: r => (Le (t i) v ∨ ∃ len, t i = .osl s w 0 len n ∧ len ≤ n ∧ v = .sl len w f) ∧ HasF t s n w f r
theorem HasF.get {t : Nat → AV} {s n w : Nat} {f : Nat → Nat → AV} : ∀ {T : List (Nat × AV)}, HasF t s n w f T → ∀ i, Le (t i) (ofT T i) ∨ ∃ len, t i = .osl s w 0 len n ∧ len ≤ n ∧ ofT T i = .sl len w f
  | [], _, i => .inl (Le.bad _)
  | (j, v) :: r, h, i => by
    unfold ofT
    by_cases e : i = j
    · subst e; rw [beq_self]; exact h.1
    · rw [beq_ne e]; exact HasF.get h.2 i

/-- All that stand for such a state. -/
def All (c : Cx) (st : St) (Φ : Act → World → Prop) : Prop := ∀ g a w, SR g c.cf.N st a w → In c g st.L w → Φ a w

theorem All.freeze {c : Cx} {st : St} {Φ : Act → World → Prop} (s n w0 : Nat) (f : Nat → Nat → AV) (T : List (Nat × AV)) (T' : List (Nat × Ob)) (hs0 : st.L s = some (.buf n w0 f)) (hT : HasF st.t s n w0 f T) (hL : HasL st.L T')
    (hc : (clTs (domB T') T && clOs (domB T') T' && !domB T' s) = true) (h0 : ∀ i, (c.L0 i).isSome = true → domB T' i = true) (h : All c ⟨ofT T, ofL T'⟩ Φ) : All c st Φ := by
  intro g a w hs hf
  simp only [Bool.and_eq_true, Bool.not_eq_true'] at hc
  obtain ⟨⟨hc1, hc2⟩, hc3⟩ := hc
  have hL' := hL.get
  have hsz : ∀ i, domB T' i = true → szf (ofL T') i = szf st.L i := by
    intro i hi
    unfold domB at hi
    cases e : ofL T' i with
    | none => rw [e] at hi; cases hi
    | some o => obtain ⟨o1, h1, h2⟩ := hL' i o e; simp [szf, e, h1, h2.1]
  have hszs : szf st.L s = n := by simp [szf, hs0, szOf]
  let g' : G := ⟨fun b => g.S b ∨ ∃ κ, g.β s = some (b, κ), fun i => bif domB T' i then g.β i else none⟩
  have gin : ∀ {i}, domB T' i = true → g'.β i = g.β i := fun {i} hi => by show (bif domB T' i then g.β i else none) = _; rw [hi]; rfl
  have gout : ∀ {i x}, g'.β i = some x → domB T' i = true ∧ g.β i = some x := by
    intro i x hx
    have hx : (bif domB T' i then g.β i else none) = some x := hx
    cases hd : domB T' i with
    | true => rw [hd] at hx; exact ⟨rfl, hx⟩
    | false => rw [hd] at hx; cases hx
  have hD : ∀ i, domB T' i = true → g'.β i = g.β i ∧ szf (ofL T') i = szf st.L i := fun i hi => ⟨gin hi, hsz i hi⟩
  have hS : ∀ b, g.S b → g'.S b := fun b hb => .inl hb
  have hO : OR g' (ofL T') w := by
    refine ⟨fun i o ho => ?_, fun i b κ hb => ?_, fun i j b κ κ' hb hb' => hs.o.inj i j b κ κ' (gout hb).2 (gout hb').2, fun b hb => ?_⟩
    · obtain ⟨o1, h1, h2⟩ := hL' i o ho
      exact ObR.restrict (g := g) (g' := g') (D := domB T') hS hD (h2.2 _ _ _ _ (hs.o.ob i o1 h1)) (by unfold domB; rw [ho]; rfl) (clOs_get hc2 i o ho)
    · obtain ⟨h1, h2⟩ := gout hb
      obtain ⟨_, h3, h4⟩ := hs.o.own i b κ h2
      refine ⟨h1, h3, fun h5 => h5.elim h4 fun ⟨κ', h6⟩ => ?_⟩
      have := hs.o.inj i s b κ κ' h2 h6
      subst this
      rw [h1] at hc3; cases hc3
    · rcases hb with hb | ⟨κ, hb⟩
      · exact hs.o.fz b hb
      · exact (hs.o.own s b κ hb).2.1
  refine h g' a w ⟨hs.nt, hs.df, fun i => ?_, hO⟩ ⟨⟨hf.f.os, hf.f.tape, hf.f.out, hf.f.size, hf.f.heap, fun b hb => .inl (hf.f.S b hb), fun b hb => ?_, ?_⟩, fun i hi => ?_⟩
  · rcases hT.get i with hle | ⟨len, e1, e2, e3⟩
    · exact R.restrict (g := g) (g' := g') (D := domB T') hS hD (hle _ _ _ _ (hs.tm i)) (clTs_get hc1 i)
    · have hr := hs.tm i
      rw [e1] at hr
      show R g' _ w (ofT T i) _
      rw [e3]
      rcases osl_inv hr (by rw [hszs]; omega) with ⟨a', _, rfl, rfl, hv⟩ | ⟨b, κ, hβ, hv, hl, hκ, hc'⟩
      · rw [hv]; exact .fz _ _ (.sl0 _ _ _ _)
      · rw [hv]
        rcases hs.o.ob s _ hs0 with h1 | ⟨b', κ', cs, T2, hβ', hh, hn, hcs, hr2⟩
        · omega
        rw [hβ] at hβ'; cases hβ'
        refine .fz _ _ (.sl _ _ _ b _ _ (fun i j => cs.getD (i * w0 + j) undef) (.inr ⟨κ, hβ⟩) (by omega) (fun i j hi hj => ?_) (fun i j hi hj => (hr2 i j (by omega) hj).1.mono hS fun _ _ _ => rfl) (fun i j hi hj => (hr2 i j (by omega) hj).2))
        have := cell_of hh (o := i * w0 + j) (by rw [hcs]; exact in_row (by omega) hj)
        simpa using this
  · rcases hb with hb | ⟨κ, hb⟩
    · exact hf.f.S' b hb
    · exact .inr (hf.f.own b ⟨s, κ, hb⟩)
  · rintro b ⟨i, κ, hb⟩
    exact hf.f.own b ⟨i, κ, (gout hb).2⟩
  · obtain ⟨h1, h2⟩ := hf.k i hi
    have h3 := h0 i hi
    refine ⟨h3, ?_⟩
    show (szf (ofL T') i = _ ∧ g'.β i = _) ∨ _ < szf (ofL T') i
    rw [hsz i h3, gin h3]; exact h2

variable {ρ : Type} {Y : Fam ρ}
theorem RS.freeze {k : List It} {st : St} {sh : Option ρ} (s n w0 : Nat) (f : Nat → Nat → AV) (T : List (Nat × AV)) (T' : List (Nat × Ob)) (hs0 : st.L s = some (.buf n w0 f)) (hT : HasF st.t s n w0 f T) (hL : HasL st.L T')
    (hc : (clTs (domB T') T && clOs (domB T') T' && !domB T' s) = true) (h0 : ∀ i, (ofL Y.L0 i).isSome = true → domB T' i = true) (h : RS Y k ⟨ofT T, ofL T'⟩ sh) : RS Y k st sh :=
  fun r hr z => All.freeze (c := (Y.sp r).cx z) s n w0 f T T' hs0 hT hL hc h0 (h r hr z)
theorem RT.freeze {st : St} {sh : Option ρ} (s n w0 : Nat) (f : Nat → Nat → AV) (T : List (Nat × AV)) (T' : List (Nat × Ob)) {t0 : Tree} (ht : t0 = .done st) (hs0 : st.L s = some (.buf n w0 f)) (hT : HasF st.t s n w0 f T) (hL : HasL st.L T')
    (hc : (clTs (domB T') T && clOs (domB T') T' && !domB T' s) = true) (h0 : ∀ i, (ofL Y.L0 i).isSome = true → domB T' i = true) (h : RT Y (.done ⟨ofT T, ofL T'⟩) sh) : RT Y t0 sh := by
  subst ht
  exact fun r hr z => All.freeze (c := (Y.sp r).cx z) s n w0 f T T' hs0 hT hL hc h0 (h r hr z)
theorem cells_of {α : Type} {E : Enc α} {l : List α} {cs : List AV} (h : cs = l.flatMap fun x => (List.range E.w).map (E.c x)) : Cells E l cs := by
  subst h
  induction l with
  | nil => intro i j hi; cases hi
  | cons x l ih =>
    intro i j hi hj
    have hlen : ((List.range E.w).map (E.c x)).length = E.w := by simp
    cases i with
    | zero => simp [rep, List.getD, List.getElem?_append_left, hj]
    | succ i =>
      have := ih i j (by simpa using hi) hj
      simp only [List.flatMap_cons, List.getD] at this ⊢
      rw [List.getElem?_append_right (by rw [hlen, Nat.add_mul]; omega), hlen, show (i + 1) * E.w + j - E.w = i * E.w + j by rw [Nat.add_mul]; omega]
      simpa [rep, List.getD] using this
theorem LeO.clr {α : Type} {E : Enc α} {l : List α} {o i n : Nat} {zs : List AV} (ho : o = i) (hn : n = l.length - i) (hi : i ≤ l.length) (h : ∀ j, j < E.w → zs.getD j .bad = E.c E.d j) :
    LeO (.buf l.length E.w fun a j => bif Nat.ble o a && Nat.blt a (o + n) then zs.getD j .bad else rep E l a j) (bufE E (l.take i ++ List.replicate (l.length - i) E.d)) := by
  subst ho hn
  refine LeO.buf (by simp; omega) fun a j ha hj => ?_
  by_cases c : o ≤ a
  · have : (Nat.ble o a && Nat.blt a (o + (l.length - o))) = true := by simp only [Bool.and_eq_true, Nat.ble_eq, Nat.blt_eq]; omega
    simp only [this, cond_true, h j hj]
    have h1 : (l.take o).length = o := by simp; omega
    simp only [rep, List.getD]
    rw [List.getElem?_append_right (by omega), h1, List.getElem?_replicate, if_pos (by omega)]
    rfl
  · have : (Nat.ble o a && Nat.blt a (o + (l.length - o))) = false := by rw [Bool.eq_false_iff]; intro hh; simp only [Bool.and_eq_true, Nat.ble_eq, Nat.blt_eq] at hh; omega
    simp only [this, cond_false]
    have h1 : (l.take o).length = o := by simp; omega
    simp only [rep, List.getD]
    rw [List.getElem?_append_left (by omega), List.getElem?_take, if_pos (by omega)]
theorem LeO.clrT {α : Type} {E : Enc α} {l t : List α} {o i n : Nat} {zs : List AV} (ho : o = i) (hn : n = l.length - i) (hi : i ≤ l.length) (h : ∀ j, j < E.w → zs.getD j .bad = E.c E.d j) :
    LeO (.buf (l ++ t).length E.w fun a j => bif Nat.ble o a && Nat.blt a (o + n) then zs.getD j .bad else rep E (l ++ t) a j) (bufE E ((l.take i ++ List.replicate (l.length - i) E.d) ++ t)) := by
  subst ho hn
  have h1 : (l.take o).length = o := by simp; omega
  have h2 : (l.take o ++ List.replicate (l.length - o) E.d).length = l.length := by simp; omega
  refine LeO.buf (by rw [List.length_append, List.length_append (as := l.take o ++ _), h2]) fun a j ha hj => ?_
  by_cases c : o ≤ a ∧ a < l.length
  · have : (Nat.ble o a && Nat.blt a (o + (l.length - o))) = true := by simp only [Bool.and_eq_true, Nat.ble_eq, Nat.blt_eq]; omega
    simp only [this, cond_true, h j hj]
    simp only [rep, List.getD]
    rw [List.getElem?_append_left (by omega), List.getElem?_append_right (by omega), h1, List.getElem?_replicate, if_pos (by omega)]
    rfl
  · have : (Nat.ble o a && Nat.blt a (o + (l.length - o))) = false := by rw [Bool.eq_false_iff]; intro hh; simp only [Bool.and_eq_true, Nat.ble_eq, Nat.blt_eq] at hh; omega
    simp only [this, cond_false]
    simp only [rep, List.getD]
    by_cases c2 : a < o
    · rw [List.getElem?_append_left (by omega), List.getElem?_append_left (by omega), List.getElem?_append_left (by omega), List.getElem?_take, if_pos (by omega)]
    · rw [List.getElem?_append_right (by omega), List.getElem?_append_right (by omega), h2]
theorem LeO.rep0 {α : Type} {E : Enc α} {n : Nat} {zs : List AV} (h : ∀ j, j < E.w → zs.getD j .bad = E.c E.d j) : LeO (.buf n E.w fun _ j => zs.getD j .bad) (bufE E (List.replicate n E.d)) :=
  LeO.buf (by simp) fun i j hi hj => by rw [h j hj]; simp [rep, List.getD, hi]
end Go.EV
namespace Go.EV
open Go Go.RowKit
set_option linter.unusedVariables false
theorem dom_of {L T : List (Nat × Ob)} (h : (L.all fun p => domB T p.1) = true) : ∀ s, (ofL L s).isSome = true → domB T s = true := fun s hs => by
  obtain ⟨p, hp, rfl⟩ := domB_mem (T := L) hs
  exact List.all_eq_true.1 h p hp

variable {ρ : Type} {Y : Fam ρ}
/-- A nil slice is an owned one of no length. -/
theorem RS.ghost {k : List It} {st : St} {sh : Option ρ} (d s : Nat) (w1 : Nat) (f : Nat → Nat → AV) (hd : st.t d = .v (.slice Option.none 0 0)) (hs0 : st.L s = Option.none)
    (h : RS Y k ⟨upd1 st.t d (.osl s w1 0 0 0), upd1 st.L s (some (.buf 0 w1 f))⟩ sh) : RS Y k st sh := fun r hr z g a w hs hf => by
  have hst := Stp.ghost hs.o hs0 w1 f
  have hsz : szf (upd1 st.L s (some (.buf 0 w1 f))) s = 0 := by simp [szf, upd1_self, szOf]
  refine h r hr z g a w ⟨hs.nt, hs.df, fun i => ?_, hst.o⟩ (hf.step hst)
  show R g _ w (upd1 st.t d _ i) _
  by_cases e : i = d
  · subst e
    rw [upd1_self]
    have := hs.tm i
    rw [hd] at this
    rw [this.v_inv]
    exact .osl0 _ _ _ hsz
  · rw [upd1_ne _ _ e]; exact (hs.tm i).mono hst.m
end Go.EV
namespace Go.EV
open Go Go.RowKit
/-! ### small facts that the printed texts use -/
theorem elt_lt {n : Nat} {i : Int} (h0 : 0 ≤ i) (h1 : i < (n : Int)) : addO 0 i.toNat < n := by rw [addO_eq]; omega
theorem elt_lt' {n : Nat} {i : Int} (h0 : 0 ≤ i) (h1 : i < (n : Int)) : i.toNat < n := by omega
theorem all1 {p : Nat → Prop} (h0 : p 0) : ∀ j, j < 1 → p j
  | 0, _ => h0
theorem all2 {p : Nat → Prop} (h0 : p 0) (h1 : p 1) : ∀ j, j < 2 → p j
  | 0, _ => h0
  | 1, _ => h1
theorem all3 {p : Nat → Prop} (h0 : p 0) (h1 : p 1) (h2 : p 2) : ∀ j, j < 3 → p j
  | 0, _ => h0
  | 1, _ => h1
  | 2, _ => h2
theorem all4 {p : Nat → Prop} (h0 : p 0) (h1 : p 1) (h2 : p 2) (h3 : p 3) : ∀ j, j < 4 → p j
  | 0, _ => h0
  | 1, _ => h1
  | 2, _ => h2
  | 3, _ => h3
theorem LeO.setE {α : Type} {E : Enc α} {l : List α} {i : Int} {off : Nat} {ys : List AV} {x : α} (h0 : 0 ≤ i) (h1 : i < (l.length : Int)) (h : ∀ j, j < E.w → (bif Nat.ble off j && Nat.blt j (off + ys.length) then ys.getD (j - off) .bad else E.c (l.getD i.toNat E.d) j) = E.c x j) :
    LeO (.buf l.length E.w (putF (rep E l) (addO 0 i.toNat) off ys)) (bufE E (l.set i.toNat x)) := by
  rw [addO_eq, Nat.zero_add]; exact LeO.set (elt_lt' h0 h1) h
theorem Le.tail {α : Type} {E : Enc α} {l : List α} {a : Int} (h0 : 0 ≤ a) (h1 : a ≤ (l.length : Int)) : Le (.sl ((l.length : Int).toNat - a.toNat) E.w fun i j => rep E l (i + a.toNat) j) (sq E (l.drop a.toNat)) := by
  have := Le.part (E := E) (l := l) (a := a) (b := (l.length : Int)) h0 h1 (by omega)
  simpa using this
theorem Le.head {α : Type} {E : Enc α} {l : List α} {b : Int} (h0 : 0 ≤ b) (h1 : b ≤ (l.length : Int)) : Le (.sl (b.toNat - (0 : Int).toNat) E.w fun i j => rep E l (i + (0 : Int).toNat) j) (sq E (l.take b.toNat)) := by
  have := Le.part (E := E) (l := l) (a := 0) (b := b) (by omega) h0 h1
  simpa using this
theorem Le.all {α : Type} {E : Enc α} {l : List α} : Le (.sl ((l.length : Int).toNat - (0 : Int).toNat) E.w fun i j => rep E l (i + (0 : Int).toNat) j) (sq E l) := by
  have := Le.part (E := E) (l := l) (a := 0) (b := (l.length : Int)) (by omega) (by omega) (by omega)
  simpa using this
end Go.EV
namespace Go.EV
theorem Le.oslN {v : AV} {s w n n' : Nat} (h : v = .osl s w 0 n n) (e : n = n') : Le v (.osl s w 0 n' n') := by subst e; exact Le.eq h
end Go.EV
namespace Go.EV
open Go Go.RowKit
set_option linter.unusedVariables false
/-! ### slices with room to spare -/
section
variable {α : Type} {E : Enc α}
theorem rep_pre {l t : List α} {i j : Nat} (h : i < l.length) : rep E (l ++ t) i j = rep E l i j := by simp [rep, List.getD, List.getElem?_append_left h]
theorem rep_suf {l t : List α} {i j : Nat} (h : ¬ i < l.length) : rep E (l ++ t) i j = rep E t (i - l.length) j := by simp [rep, List.getD, List.getElem?_append_right (Nat.le_of_not_lt h)]
theorem rep_drop {l : List α} {n i j : Nat} : rep E (l.drop n) i j = rep E l (n + i) j := by simp [rep, List.getD, List.getElem?_drop]
theorem Le.pre {l t : List α} : Le (.sl l.length E.w (rep E (l ++ t))) (sq E l) := Le.sl_eq rfl fun i j hi hj => rep_pre hi
theorem LeO.appT {l t m : List α} {f2 : Nat → Nat → AV} (h : ∀ i j, i < m.length → j < E.w → f2 i j = rep E m i j) (hm : l.length + m.length ≤ (l ++ t).length) :
    LeO (.buf (l ++ t).length E.w fun i j => bif Nat.ble l.length i && Nat.blt i (l.length + m.length) then f2 (i - l.length) j else rep E (l ++ t) i j) (bufE E ((l ++ m) ++ t.drop m.length)) := by
  simp only [List.length_append] at hm
  refine LeO.buf (by simp; omega) fun i j hi hj => ?_
  by_cases h1 : i < l.length
  · have e : Nat.ble l.length i = false := by
      cases hb : Nat.ble l.length i with
      | false => rfl
      | true => have := Nat.le_of_ble_eq_true hb; omega
    rw [e, Bool.false_and, cond_false, rep_pre h1, List.append_assoc, rep_pre h1]
  · have e : Nat.ble l.length i = true := Nat.ble_eq_true_of_le (Nat.le_of_not_lt h1)
    rw [e, Bool.true_and, List.append_assoc]
    simp only [rep_suf h1]
    by_cases h2 : i < l.length + m.length
    · rw [Nat.blt_eq.mpr h2, cond_true, h _ j (by omega) hj, rep_pre (by omega)]
    · have e2 : Nat.blt i (l.length + m.length) = false := by
        cases hb : Nat.blt i (l.length + m.length) with
        | false => rfl
        | true => exact absurd (Nat.blt_eq.mp hb) h2
      rw [e2, cond_false, rep_suf (l := m) (t := t.drop m.length) (by omega), rep_drop]
      congr 1; omega
theorem LeO.appN {l t m : List α} {f2 : Nat → Nat → AV} (h : ∀ i j, i < m.length → j < E.w → f2 i j = rep E m i j) :
    LeO (.buf (l.length + m.length) E.w fun i j => bif Nat.blt i l.length then rep E (l ++ t) i j else f2 (i - l.length) j) (bufE E ((l ++ m) ++ [])) := by
  rw [List.append_nil]
  refine LeO.buf (by simp) fun i j hi hj => ?_
  by_cases h1 : i < l.length
  · rw [Nat.blt_eq.mpr h1, cond_true, rep_pre h1, rep_pre h1]
  · have e : Nat.blt i l.length = false := by
      cases hb : Nat.blt i l.length with
      | false => rfl
      | true => exact absurd (Nat.blt_eq.mp hb) h1
    rw [e, cond_false, h _ j (by omega) hj, rep_suf h1]
theorem upd1_upd1 {β : Type} {f : Nat → β} {i : Nat} {x y : β} : upd1 (upd1 f i x) i y = upd1 f i y := by
  funext j
  by_cases e : j = i
  · subst e; rw [upd1_self, upd1_self]
  · rw [upd1_ne _ _ e, upd1_ne _ _ e, upd1_ne _ _ e]
variable {ρ : Type} {Y : Fam ρ}
theorem RT.app {t0 : Tree} {k : List It} {A : Option ρ} {d s : Nat} {st : St} {l t m : List α} {f2 : Nat → Nat → AV}
    (h : t0 = .br (decide (l.length + m.length ≤ (l ++ t).length))
      (.goto k (st.step (some d) (.osl s E.w 0 (l.length + m.length) (l ++ t).length) (.upd s (.buf (l ++ t).length E.w fun i j => bif Nat.ble l.length i && Nat.blt i (l.length + m.length) then f2 (i - l.length) j else rep E (l ++ t) i j))))
      (.br (decide (l.length + m.length ≤ 549755813888))
        (.goto k (st.step (some d) (.osl s E.w 0 (l.length + m.length) (l.length + m.length)) (.upd s (.buf (l.length + m.length) E.w fun i j => bif Nat.blt i l.length then rep E (l ++ t) i j else f2 (i - l.length) j)))) .fail))
    (hf : ∀ i j, i < m.length → j < E.w → f2 i j = rep E m i j)
    (h3 : ∀ t', RS Y k ⟨upd1 st.t d (.osl s E.w 0 (l ++ m).length ((l ++ m) ++ t').length), upd1 st.L s (some (bufE E ((l ++ m) ++ t')))⟩ A) :
    RT Y t0 (if l.length + m.length ≤ 549755813888 then A else Option.none) := by
  intro r hr
  have hA : A = some r := by
    by_cases c : l.length + m.length ≤ 549755813888
    · rwa [if_pos c] at hr
    · rw [if_neg c] at hr; cases hr
  refine RnT.brE h (fun c => ?_) (fun c => RnT.brE rfl (fun c2 => ?_) (fun c2 => ?_))
  · have c := of_decide_eq_true c
    refine RnT.gotoE rfl (fun z => ?_)
    refine Gd.obj s (bufE E ((l ++ m) ++ t.drop m.length)) ⟨_, upd1_self _ _ _, LeO.appT hf c⟩ ?_
    refine Gd.slot d (.osl s E.w 0 (l ++ m).length ((l ++ m) ++ t.drop m.length).length) (Le.eq ?_) ?_
    · show upd1 st.t d _ d = _
      rw [upd1_self]; simp only [List.length_append, List.length_drop] at c ⊢
      congr 1; omega
    · have := h3 (t.drop m.length) r hA z
      show Gd _ k ⟨upd1 (upd1 st.t d _) d _, upd1 (upd1 st.L s _) s _⟩
      rw [upd1_upd1, upd1_upd1]; exact this
  · refine RnT.gotoE rfl (fun z => ?_)
    refine Gd.obj s (bufE E ((l ++ m) ++ [])) ⟨_, upd1_self _ _ _, LeO.appN hf⟩ ?_
    refine Gd.slot d (.osl s E.w 0 (l ++ m).length ((l ++ m) ++ []).length) (Le.eq ?_) ?_
    · show upd1 st.t d _ d = _
      rw [upd1_self]; simp
    · have := h3 [] r hA z
      show Gd _ k ⟨upd1 (upd1 st.t d _) d _, upd1 (upd1 st.L s _) s _⟩
      rw [upd1_upd1, upd1_upd1]; exact this
  · have c2 := of_decide_eq_false c2
    rw [if_neg c2] at hr; cases hr
/-- The first ones of an owned slice: the others lie behind. -/
theorem LeO.cut {l t : List α} {n : Nat} : LeO (bufE E (l ++ t)) (bufE E (l.take n ++ (l.drop n ++ t))) := by rw [← List.append_assoc, List.take_append_drop]; exact LeO.refl _
theorem LeO.cut0 {l : List α} {n : Nat} : LeO (bufE E l) (bufE E (l.take n ++ l.drop n)) := by rw [List.take_append_drop]; exact LeO.refl _
theorem LeO.room0 {l : List α} : LeO (bufE E l) (bufE E (l ++ [])) := by rw [List.append_nil]; exact LeO.refl _
theorem Le.osl2 {v : AV} {s w o n c n' c' : Nat} (h : v = .osl s w o n c) (ho : o = 0) (e : n = n') (e2 : c = c') : Le v (.osl s w 0 n' c') := by subst ho e e2; exact Le.eq h
theorem rdE_pre {l t : List α} {i : Int} (h0 : 0 ≤ i) (h1 : i < (l.length : Int)) : (l ++ t).getD i.toNat E.d = l.getD i.toNat E.d := by
  simp [List.getD, List.getElem?_append_left (elt_lt' h0 h1)]
end
end Go.EV
namespace Go.EV
open Go Go.RowKit
theorem le_room {α : Type} {h : Int} {l t : List α} (c : h ≤ (l.length : Int)) : h ≤ ((l ++ t).length : Int) := by simp only [List.length_append]; omega
theorem len_cut {α : Type} {l t : List α} {n : Nat} : (l ++ t).length - (0 : Int).toNat = (l.take n ++ (l.drop n ++ t)).length := by rw [← List.append_assoc, List.take_append_drop]; rfl
theorem len_cut0 {α : Type} {l : List α} {n : Nat} : l.length - (0 : Int).toNat = (l.take n ++ l.drop n).length := by rw [List.take_append_drop]; rfl
theorem len_take {α : Type} {l : List α} {h : Int} (h0 : 0 ≤ h) (c : h ≤ (l.length : Int)) : h.toNat - (0 : Int).toNat = (l.take h.toNat).length := by simp only [List.length_take]; omega
theorem RT.when {ρ : Type} {Y : Fam ρ} {t0 : Tree} {p : Prop} [Decidable p] {A : Option ρ} (h : p → RT Y t0 A) : RT Y t0 (if p then A else Option.none) := fun r hr => by
  by_cases c : p
  · rw [if_pos c] at hr; exact h c r hr
  · rw [if_neg c] at hr; cases hr
end Go.EV
namespace Go.EV
theorem le_room2 {α : Type} {h : Int} {l t : List α} (c : h < (l.length : Int)) : h < ((l ++ t).length : Int) := by simp only [List.length_append]; omega
end Go.EV
namespace Go.EV
open Go Go.RowKit
variable {ρ : Type} {Y : Fam ρ}
theorem RT.brC {t0 : Tree} {b : Bool} {p : Prop} [Decidable p] {t e : Tree} {A B : Option ρ} (h : t0 = .br b t e) (hb : b = decide p) (h1 : p → RT Y t A) (h2 : ¬ p → RT Y e B) : RT Y t0 (if p then A else B) := RT.br (hb ▸ h) h1 h2
theorem RD.brC {all : Array Oper} {k : List It} {t0 : DT} {b : Bool} {p : Prop} [Decidable p] {t e : DT} {A B : Option ρ} (h : t0 = .br b t e) (hb : b = decide p) (h1 : p → RD Y all k t A) (h2 : ¬ p → RD Y all k e B) : RD Y all k t0 (if p then A else B) := RD.br (hb ▸ h) h1 h2
/-- What is said of an element of a longer list. -/
theorem pre_cond {α : Type} {E : Enc α} {l t : List α} {i : Int} {q : α → Prop} [∀ x, Decidable (q x)] (h0 : 0 ≤ i) (h1 : i < (l.length : Int)) : decide (q ((l ++ t).getD i.toNat E.d)) = decide (q (l.getD i.toNat E.d)) := by rw [rdE_pre (E := E) h0 h1]
end Go.EV
namespace Go.EV
open Go Go.RowKit
variable {ρ : Type} {Y : Fam ρ}
theorem All.ghost {c : Cx} {st : St} {Φ : Act → World → Prop} (d s : Nat) (w1 : Nat) (f : Nat → Nat → AV) (hd : st.t d = .v (.slice Option.none 0 0)) (hs0 : st.L s = Option.none)
    (h : All c ⟨upd1 st.t d (.osl s w1 0 0 0), upd1 st.L s (some (.buf 0 w1 f))⟩ Φ) : All c st Φ := fun g a w hs hf => by
  have hst := Stp.ghost hs.o hs0 w1 f
  have hsz : szf (upd1 st.L s (some (.buf 0 w1 f))) s = 0 := by simp [szf, upd1_self, szOf]
  refine h g a w ⟨hs.nt, hs.df, fun i => ?_, hst.o⟩ (hf.step hst)
  show R g _ w (upd1 st.t d _ i) _
  by_cases e : i = d
  · subst e
    rw [upd1_self]
    have := hs.tm i
    rw [hd] at this
    rw [this.v_inv]
    exact .osl0 _ _ _ hsz
  · rw [upd1_ne _ _ e]; exact (hs.tm i).mono hst.m
/-- A nil slice at a function's end is an owned one of no length. -/
theorem RT.ghost {st : St} {sh : Option ρ} {t0 : Tree} (d s : Nat) (w1 : Nat) (f : Nat → Nat → AV) (ht : t0 = .done st) (hd : st.t d = .v (.slice Option.none 0 0)) (hs0 : st.L s = Option.none)
    (h : RT Y (.done ⟨upd1 st.t d (.osl s w1 0 0 0), upd1 st.L s (some (.buf 0 w1 f))⟩) sh) : RT Y t0 sh := by
  subst ht
  exact fun r hr z => All.ghost (c := (Y.sp r).cx z) d s w1 f hd hs0 (h r hr z)
end Go.EV
namespace Go.EV
open Go Go.RowKit
section
variable {α : Type} {E : Enc α} {ρ : Type} {Y : Fam ρ}
/-- An append of a list of whatever length to an owned slice without room to spare. -/
theorem RT.appL {t0 : Tree} {k : List It} {A : Option ρ} {d s : Nat} {st : St} {l m : List α} {f2 : Nat → Nat → AV}
    (h : t0 = .br (decide (l.length + m.length ≤ l.length))
      (.goto k (st.step (some d) (.osl s E.w 0 (l.length + m.length) l.length) (.upd s (.buf l.length E.w fun i j => bif Nat.ble l.length i && Nat.blt i (l.length + m.length) then f2 (i - l.length) j else rep E l i j))))
      (.br (decide (l.length + m.length ≤ 549755813888))
        (.goto k (st.step (some d) (.osl s E.w 0 (l.length + m.length) (l.length + m.length)) (.upd s (.buf (l.length + m.length) E.w fun i j => bif Nat.blt i l.length then rep E l i j else f2 (i - l.length) j)))) .fail))
    (hf : ∀ i j, i < m.length → j < E.w → f2 i j = rep E m i j)
    (h3 : RS Y k ⟨upd1 st.t d (.osl s E.w 0 (l ++ m).length (l ++ m).length), upd1 st.L s (some (bufE E (l ++ m)))⟩ A) :
    RT Y t0 (if l.length + m.length ≤ 549755813888 then A else Option.none) := by
  intro r hr
  have hA : A = some r := by
    by_cases c : l.length + m.length ≤ 549755813888
    · rwa [if_pos c] at hr
    · rw [if_neg c] at hr; cases hr
  refine RnT.brE h (fun c => ?_) (fun c => RnT.brE rfl (fun c2 => ?_) (fun c2 => ?_))
  · have c := of_decide_eq_true c
    have hm : m = [] := List.eq_nil_of_length_eq_zero (by omega)
    subst hm
    refine RnT.gotoE rfl (fun z => ?_)
    refine Gd.obj s (bufE E (l ++ [])) ⟨_, upd1_self _ _ _, LeO.buf (by simp) fun i j hi hj => ?_⟩ ?_
    · have e : Nat.ble l.length i = false := by
        cases hb : Nat.ble l.length i with
        | false => rfl
        | true => have := Nat.le_of_ble_eq_true hb; omega
      rw [e, Bool.false_and, cond_false, rep_pre hi]
    refine Gd.slot d (.osl s E.w 0 (l ++ []).length (l ++ []).length) (Le.eq ?_) ?_
    · show upd1 st.t d _ d = _
      rw [upd1_self]; simp
    · have := h3 r hA z
      show Gd _ k ⟨upd1 (upd1 st.t d _) d _, upd1 (upd1 st.L s _) s _⟩
      rw [upd1_upd1, upd1_upd1]; exact this
  · refine RnT.gotoE rfl (fun z => ?_)
    refine Gd.obj s (bufE E (l ++ m)) ⟨_, upd1_self _ _ _, LeO.app hf⟩ ?_
    refine Gd.slot d (.osl s E.w 0 (l ++ m).length (l ++ m).length) (Le.eq ?_) ?_
    · show upd1 st.t d _ d = _
      rw [upd1_self]; simp
    · have := h3 r hA z
      show Gd _ k ⟨upd1 (upd1 st.t d _) d _, upd1 (upd1 st.L s _) s _⟩
      rw [upd1_upd1, upd1_upd1]; exact this
  · have c2 := of_decide_eq_false c2
    rw [if_neg c2] at hr; cases hr
end
/-- An element of a slice with room to spare is set. -/
theorem LeO.setT {α : Type} {E : Enc α} {l t : List α} {i : Int} {off : Nat} {ys : List AV} {x : α} (h0 : 0 ≤ i) (h1 : i < (l.length : Int)) (h : ∀ j, j < E.w → (bif Nat.ble off j && Nat.blt j (off + ys.length) then ys.getD (j - off) .bad else E.c ((l ++ t).getD i.toNat E.d) j) = E.c x j) :
    LeO (.buf (l ++ t).length E.w (putF (rep E (l ++ t)) (addO 0 i.toNat) off ys)) (bufE E (l.set i.toNat x ++ t)) := by
  have := LeO.setE (E := E) (l := l ++ t) (i := i) (x := x) h0 (le_room2 h1) h
  rwa [List.set_append_left _ _ (elt_lt' h0 h1)] at this
/-- Something is put behind, in the room to spare, or in new memory; in a drawn region. -/
theorem LeO.appIn {α : Type} {E : Enc α} {l t m : List α} {f2 : Nat → Nat → AV} (c : l.length + m.length ≤ (l ++ t).length) (h : ∀ i j, i < m.length → j < E.w → f2 i j = rep E m i j) :
    LeO (.buf (l ++ t).length E.w fun i j => bif Nat.ble l.length i && Nat.blt i (l.length + m.length) then f2 (i - l.length) j else rep E (l ++ t) i j) (bufE E ((l ++ m) ++ t.drop m.length)) := by
  refine LeO.buf (by simp at c ⊢; omega) fun i j hi hj => ?_
  cases hb : (Nat.ble l.length i && Nat.blt i (l.length + m.length)) with
  | true =>
    simp only [Bool.and_eq_true, Nat.ble_eq, Nat.blt_eq] at hb
    show f2 (i - l.length) j = _
    rw [h _ j (by omega) hj]
    unfold rep
    congr 1
    simp only [List.getD]
    rw [List.getElem?_append_left (by simp; omega), List.getElem?_append_right hb.1]
  | false =>
    show rep E (l ++ t) i j = _
    unfold rep
    congr 1
    have hb' : ¬ (l.length ≤ i ∧ i < l.length + m.length) := fun h' => by
      rw [Bool.and_eq_false_iff] at hb
      rcases hb with hb | hb
      · rw [Nat.ble_eq.mpr h'.1] at hb; cases hb
      · rw [Nat.blt_eq.mpr h'.2] at hb; cases hb
    simp only [List.getD]
    by_cases c2 : i < l.length
    · rw [List.getElem?_append_left c2, List.append_assoc, List.getElem?_append_left c2]
    · rw [List.getElem?_append_right (by omega), List.getElem?_append_right (by simp; omega), List.getElem?_drop]
      congr 2
      simp
      omega
theorem LeO.appR {α : Type} {E : Enc α} {l t m : List α} {f2 : Nat → Nat → AV} (h : ∀ i j, i < m.length → j < E.w → f2 i j = rep E m i j) :
    LeO (.buf (l.length + m.length) E.w fun i j => bif Nat.blt i l.length then rep E (l ++ t) i j else f2 (i - l.length) j) (bufE E (l ++ m)) := by
  refine LeO.buf (by simp) fun i j hi hj => ?_
  cases hb : Nat.blt i l.length with
  | true =>
    have := Nat.blt_eq.mp hb
    simp [rep, List.getD, List.getElem?_append_left this]
  | false =>
    have hi2 : ¬ i < l.length := fun h' => by rw [Nat.blt_eq.mpr h'] at hb; cases hb
    show f2 (i - l.length) j = _
    rw [h _ j (by omega) hj]
    unfold rep
    simp only [List.getD]
    rw [List.getElem?_append_right (by omega)]
theorem len_appIn {α : Type} {l t m : List α} (c : l.length + m.length ≤ (l ++ t).length) : (l ++ t).length = ((l ++ m) ++ t.drop m.length).length := by simp at c ⊢; omega
section
variable {ρ : Type} {Y : Fam ρ}
theorem RD.ifG {all : Array Oper} {k : List It} {t0 : DT} {b : Bool} {t e : DT} {A : Option ρ} (h : t0 = .br b t e) (h1 : b = true → RD Y all k t A) (h2 : b = false → RD Y all k e A) : RD Y all k t0 A := fun r hr => RnD.brE h (fun c => h1 c r hr) (fun c => h2 c r hr)
theorem RD.iff {all : Array Oper} {k : List It} {t0 : DT} {p : Prop} [Decidable p] {A : Option ρ} (h1 : p → RD Y all k t0 A) : RD Y all k t0 (if p then A else Option.none) := fun r hr => by
  by_cases c : p
  · rw [if_pos c] at hr; exact h1 c r hr
  · rw [if_neg c] at hr; cases hr
end
end Go.EV
