import Derived.Calls
import Derived.Below
namespace Go.Abs

mutual
inductive CT where
  | int (k : IntKind)
  | bool
  | str
  | nl (r : RT)   -- a slice of none, without room
  | sl (r : RT)
  | vs (r : RT)   -- a slice that is only lent: nobody here has its memory
inductive RT where
  | one (c : CT)
  | cons (c : CT) (r : RT)
end

mutual
def CT.den : CT → Type
  | .int _ => Int
  | .bool => Bool
  | .str => ByteArray
  | .nl _ => Unit
  | .sl r => List r.den
  | .vs r => List r.den
def RT.den : RT → Type
  | .one c => c.den
  | .cons c r => c.den × r.den
end

mutual
def CT.dflt : (c : CT) → c.den
  | .int _ => (0 : Int)
  | .bool => false
  | .str => (⟨#[]⟩ : ByteArray)
  | .nl _ => ()
  | .sl _ => []
  | .vs _ => []
def RT.dflt : (r : RT) → r.den
  | .one c => c.dflt
  | .cons c r => (c.dflt, r.dflt)
end

def IntKind.same : IntKind → IntKind → Bool
  | .i8, .i8 | .i16, .i16 | .i32, .i32 | .i64, .i64 | .u8, .u8 | .u16, .u16 | .u32, .u32 | .u64, .u64 => true
  | _, _ => false

mutual
def CT.same : CT → CT → Bool
  | .int k, .int k' => IntKind.same k k'
  | .bool, .bool => true
  | .str, .str => true
  | .nl r, .nl r' => r.same r'
  | .sl r, .sl r' => r.same r'
  | .vs r, .vs r' => r.same r'
  | _, _ => false
def RT.same : RT → RT → Bool
  | .one c, .one c' => c.same c'
  | .cons c r, .cons c' r' => c.same c' && r.same r'
  | _, _ => false
end

theorem IntKind.eq_of_same : ∀ {a b : IntKind}, IntKind.same a b = true → a = b := by
  intro a b; cases a <;> cases b <;> simp [IntKind.same]

mutual
theorem CT.eq_of_same : ∀ {a b : CT}, CT.same a b = true → a = b
  | .int k, .int k', h => by rw [IntKind.eq_of_same (a := k) (b := k') (by simpa [CT.same] using h)]
  | .bool, .bool, _ => rfl
  | .str, .str, _ => rfl
  | .nl r, .nl r', h => by rw [RT.eq_of_same (a := r) (b := r') (by simpa [CT.same] using h)]
  | .nl _, .int _, h => by simp [CT.same] at h
  | .nl _, .bool, h => by simp [CT.same] at h
  | .nl _, .str, h => by simp [CT.same] at h
  | .nl _, .sl _, h => by simp [CT.same] at h
  | .int _, .nl _, h => by simp [CT.same] at h
  | .bool, .nl _, h => by simp [CT.same] at h
  | .str, .nl _, h => by simp [CT.same] at h
  | .sl _, .nl _, h => by simp [CT.same] at h
  | .sl r, .sl r', h => by rw [RT.eq_of_same (a := r) (b := r') (by simpa [CT.same] using h)]
  | .int _, .bool, h => by simp [CT.same] at h
  | .int _, .str, h => by simp [CT.same] at h
  | .int _, .sl _, h => by simp [CT.same] at h
  | .bool, .int _, h => by simp [CT.same] at h
  | .bool, .str, h => by simp [CT.same] at h
  | .bool, .sl _, h => by simp [CT.same] at h
  | .str, .int _, h => by simp [CT.same] at h
  | .str, .bool, h => by simp [CT.same] at h
  | .str, .sl _, h => by simp [CT.same] at h
  | .sl _, .int _, h => by simp [CT.same] at h
  | .sl _, .bool, h => by simp [CT.same] at h
  | .sl _, .str, h => by simp [CT.same] at h
  | .vs r, .vs r', h => by rw [RT.eq_of_same (a := r) (b := r') (by simpa [CT.same] using h)]
  | .vs _, .int _, h => by simp [CT.same] at h
  | .int _, .vs _, h => by simp [CT.same] at h
  | .vs _, .bool, h => by simp [CT.same] at h
  | .bool, .vs _, h => by simp [CT.same] at h
  | .vs _, .str, h => by simp [CT.same] at h
  | .str, .vs _, h => by simp [CT.same] at h
  | .vs _, .nl _, h => by simp [CT.same] at h
  | .nl _, .vs _, h => by simp [CT.same] at h
  | .vs _, .sl _, h => by simp [CT.same] at h
  | .sl _, .vs _, h => by simp [CT.same] at h
theorem RT.eq_of_same : ∀ {a b : RT}, RT.same a b = true → a = b
  | .one c, .one c', h => by rw [CT.eq_of_same (a := c) (b := c') (by simpa [RT.same] using h)]
  | .cons c r, .cons c' r', h => by
    have h' : c.same c' = true ∧ r.same r' = true := by simpa [RT.same] using h
    rw [CT.eq_of_same h'.1, RT.eq_of_same h'.2]
  | .one _, .cons _ _, h => by simp [RT.same] at h
  | .cons _ _, .one _, h => by simp [RT.same] at h
end

/-- Decisions, kept as a tree. -/
inductive D (α : Type) : Type 1 where
  | ret (a : α)
  | fail
  | cond (b : Bool) (t e : D α)
  | bind (β : Type) (o : Option β) (f : β → D α)
  | cases (β γ : Type) (s : β ⊕ γ) (f : β → D α) (g : γ → D α)

def D.andThen {α β : Type} : D α → (α → D β) → D β
  | .ret a, g => g a
  | .fail, _ => .fail
  | .cond b l r, g => .cond b (l.andThen g) (r.andThen g)
  | .bind γ o f, g => .bind γ o fun x => (f x).andThen g
  | .cases γ δ s f f', g => .cases γ δ s (fun x => (f x).andThen g) (fun x => (f' x).andThen g)

instance : Monad D where
  pure := .ret
  bind := D.andThen

def cs {α β γ : Type} (s : α ⊕ β) (f : α → γ) (g : β → γ) : γ :=
  match s with
  | .inl x => f x
  | .inr x => g x

def D.run {α : Type} : D α → Option α
  | .ret a => some a
  | .fail => none
  | .cond b l r => _root_.cond b l.run r.run
  | .bind _ o f => o.bind fun x => (f x).run
  | .cases _ _ s f g => cs s (fun x => (f x).run) (fun x => (g x).run)

/-- The same, with what is done at a leaf. -/
def D.runK {α β : Type} : D α → (α → Option β) → Option β
  | .ret a, k => k a
  | .fail, _ => none
  | .cond b l r, k => _root_.cond b (l.runK k) (r.runK k)
  | .bind _ o f, k => o.bind fun x => (f x).runK k
  | .cases _ _ s f g, k => cs s (fun x => (f x).runK k) (fun x => (g x).runK k)

def D.Has {α : Type} : D α → α → Prop
  | .ret a, x => a = x
  | .fail, _ => False
  | .cond b l r, x => (b = true ∧ l.Has x) ∨ (b = false ∧ r.Has x)
  | .bind _ o f, x => ∃ y, o = some y ∧ (f y).Has x
  | .cases _ _ s f g, x => (∃ y, s = .inl y ∧ (f y).Has x) ∨ (∃ y, s = .inr y ∧ (g y).Has x)

def D.need (b : Bool) : D Unit := .cond b (.ret ()) .fail
def D.opt {α : Type} : Option α → D α
  | some a => .ret a
  | none => .fail

/-- Abstract values. -/
inductive AV : Type where
  | undef
  | int (k : IntKind) (n : Int)
  | bool (b : Bool)
  | str (s : ByteArray)
  | nil (r : Option RT)
  | emp
  | bor (tok : Option Nat) (r : RT) (rows : List r.den)
  | ref (id : Nat) (path : List (Int × Nat)) (view : Option (Int × Int))
  | ptr (id off : Nat)
  | eptr (id : Nat) (path : List (Int × Nat)) (i : Int) (c : Nat)
  | bptr (r : RT) (row : r.den) (c : Nat)
  | agg (cs : List AV)
  | tup (cs : List AV)
  | func (f : Nat) (caps : List AV)

def AV.isS : AV → Bool
  | .agg _ => false
  | .func _ _ => false
  | .tup _ => false
  | _ => true

inductive Obj : Type where
  | box (cells : List AV)
  | robox (cells : List AV)
  | row (r : RT) (rows : List r.den)
  /-- Of a slice's rows only those from lo to hi are left, and of them not the columns cols; root: the slice's own block is left too. -/
  | part (root : Bool) (cols : List Nat) (r : RT) (rows : List r.den) (lo hi : Int)

abbrev Env := List (Nat × AV)
abbrev Heap := List (Nat × Obj)

/-- What is read, what is written; of which only the length is read, and what is written so that it may have another length. -/
structure Log where
  rd : List Nat
  wr : List Nat
  ln : List Nat
  wl : List Nat
abbrev log0 : Log := ⟨[], [], [], []⟩

structure St where
  env : Env
  heap : Heap
  next : Nat

def getE : Env → Nat → AV
  | [], _ => .undef
  | (s, v) :: r, t => bif Nat.beq s t then v else getE r t
def putE : Env → Nat → AV → Env
  | [], t, v => [(t, v)]
  | (s, x) :: r, t, v => bif Nat.beq s t then (t, v) :: r else bif Nat.blt t s then (t, v) :: (s, x) :: r else (s, x) :: putE r t v
def getO : Heap → Nat → Option Obj
  | [], _ => none
  | (s, o) :: r, t => bif Nat.beq s t then some o else getO r t
def setO : Heap → Nat → Obj → Heap
  | [], t, o => [(t, o)]
  | (s, x) :: r, t, o => bif Nat.beq s t then (t, o) :: r else bif Nat.blt t s then (t, o) :: (s, x) :: r else (s, x) :: setO r t o
def delO : Heap → Nat → Heap
  | [], _ => []
  | (s, x) :: r, t => bif Nat.beq s t then delO r t else (s, x) :: delO r t
def memN : List Nat → Nat → Bool
  | [], _ => false
  | s :: r, t => Nat.beq s t || memN r t

/-! ### types -/
structure TyI where
  agg : Bool
  cells : List CT
  fields : List (Nat × Nat)
  elem : Nat
  bytes : Nat
  lend : Bool   -- rows of such elements have their slices lent
abbrev Tb := List (Nat × TyI)
def tyOf : Tb → Nat → TyI
  | [], _ => ⟨false, [], [], 0, 0, false⟩
  | (s, x) :: r, t => bif Nat.beq s t then x else tyOf r t
def rtOf : List CT → Option RT
  | [] => none
  | [c] => some (.one c)
  | c :: d :: cs => (rtOf (d :: cs)).map (.cons c)

def CT.flat : CT → Bool
  | .sl _ => false
  | _ => true
def RT.flat : RT → Bool
  | .one c => c.flat
  | .cons c r => c.flat && r.flat

mutual
/-- Nothing in it is only lent. -/
def CT.noVs : CT → Bool
  | .nl r => r.noVs
  | .sl r => r.noVs
  | .vs _ => false
  | _ => true
def RT.noVs : RT → Bool
  | .one c => c.noVs
  | .cons c r => c.noVs && r.noVs
end
/-- A row's slices as lent ones, and back. -/
def CT.toVs : CT → CT
  | .sl r => .vs r
  | c => c
def CT.toSl : CT → CT
  | .vs r => .sl r
  | c => c
def RT.toVs : RT → RT
  | .one c => .one c.toVs
  | .cons c r => .cons c.toVs r.toVs
def RT.toSl : RT → RT
  | .one c => .one c.toSl
  | .cons c r => .cons c.toSl r.toSl

def TyI.row (I : TyI) : Option RT := bif I.lend then (rtOf I.cells).map RT.toVs else rtOf I.cells
def RT.size : RT → Nat
  | .one _ => 1
  | .cons _ r => r.size + 1

/-! ### rows -/
def RT.toB : (r : RT) → r.den → List AV
  | .one (.int k), d => [.int k d]
  | .one .bool, d => [.bool d]
  | .one .str, d => [.str d]
  | .one (.nl _), _ => [.emp]
  | .one (.sl q), d => [.bor none q d]
  | .one (.vs q), d => [.bor none q d]
  | .cons (.int k) r, d => .int k d.1 :: r.toB d.2
  | .cons .bool r, d => .bool d.1 :: r.toB d.2
  | .cons .str r, d => .str d.1 :: r.toB d.2
  | .cons (.nl _) r, d => .emp :: r.toB d.2
  | .cons (.sl q) r, d => .bor none q d.1 :: r.toB d.2
  | .cons (.vs q) r, d => .bor none q d.1 :: r.toB d.2

def RT.toO (id : Nat) (path : List (Int × Nat)) (i : Int) : (j : Nat) → (r : RT) → r.den → List AV
  | _, .one (.int k), d => [.int k d]
  | _, .one .bool, d => [.bool d]
  | _, .one .str, d => [.str d]
  | _, .one (.nl _), _ => [.emp]
  | j, .one (.sl _), _ => [.ref id (path ++ [(i, j)]) none]
  | _, .one (.vs q), d => [.bor none q d]
  | j, .cons (.int k) r, d => .int k d.1 :: r.toO id path i (j + 1) d.2
  | j, .cons .bool r, d => .bool d.1 :: r.toO id path i (j + 1) d.2
  | j, .cons .str r, d => .str d.1 :: r.toO id path i (j + 1) d.2
  | j, .cons (.nl _) r, d => .emp :: r.toO id path i (j + 1) d.2
  | j, .cons (.sl _) r, d => .ref id (path ++ [(i, j)]) none :: r.toO id path i (j + 1) d.2
  | j, .cons (.vs q) r, d => .bor none q d.1 :: r.toO id path i (j + 1) d.2

def RT.slAt : (r : RT) → r.den → Nat → Option ((q : RT) × List q.den)
  | .one (.sl q), d, 0 => some ⟨q, d⟩
  | .cons (.sl q) _, d, 0 => some ⟨q, d.1⟩
  | .cons _ r, d, j + 1 => r.slAt d.2 j
  | _, _, _ => none
def castL {q r : RT} (h : q.same r = true) (x : List q.den) : List r.den := RT.eq_of_same h ▸ x
def RT.slSet : (r : RT) → r.den → Nat → (q : RT) → List q.den → Option r.den
  | .one (.sl q), _, 0, s, x => if h : s.same q = true then some (castL h x) else none
  | .cons (.sl q) _, d, 0, s, x => if h : s.same q = true then some (castL h x, d.2) else none
  | .cons _ r, d, j + 1, s, x => (r.slSet d.2 j s x).map fun y => (d.1, y)
  | _, _, _, _, _ => none

def navG (r : RT) (rows : List r.den) : List (Int × Nat) → Option ((q : RT) × List q.den)
  | [] => some ⟨r, rows⟩
  | (i, j) :: p => match r.slAt (rows.getD i.toNat r.dflt) j with
    | some ⟨q, rs⟩ => navG q rs p
    | none => none
def navS (r : RT) (rows : List r.den) : List (Int × Nat) → (q : RT) → List q.den → Option (List r.den)
  | [], q, x => if h : q.same r = true then some (castL h x) else none
  | (i, j) :: p, q, x => match r.slAt (rows.getD i.toNat r.dflt) j with
    | some ⟨s, rs⟩ => match navS s rs p q x with
      | some rs' => match r.slSet (rows.getD i.toNat r.dflt) j s rs' with
        | some row => some (rows.set i.toNat row)
        | none => none
      | none => none
    | none => none

def viewR {α : Type} (rows : List α) : Option (Int × Int) → List α
  | none => rows
  | some (o, l) => (rows.drop o.toNat).take l.toNat
def lenR {α : Type} (rows : List α) : Option (Int × Int) → Int
  | none => (rows.length : Int)
  | some (_, l) => l
def lenN (n : Nat) : Option (Int × Int) → Int
  | none => (n : Int)
  | some (_, l) => l
def offR : Option (Int × Int) → Int → Int
  | none, i => i
  | some (o, _), i => o + i

/-! ### several cells, maybe none -/
def Tup : List CT → Type
  | [] => Unit
  | [c] => c.den
  | c :: d :: cs => c.den × Tup (d :: cs)

/-- New objects for what a call handed back. -/
def newCell (id : Nat) : (c : CT) → c.den → AV × Heap
  | .int k, n => (.int k n, [])
  | .bool, b => (.bool b, [])
  | .str, s => (.str s, [])
  | .nl _, _ => (.emp, [])
  | .sl r, x => (.ref id [] none, [(id, .row r x)])
  | .vs r, x => (.bor none r x, [])
def newTup : Nat → (cs : List CT) → Tup cs → List AV × Heap
  | _, [], _ => ([], [])
  | id, [c], x => ([(newCell id c x).1], (newCell id c x).2)
  | id, c :: d :: cs, x =>
    let a := newCell id c x.1
    let b := newTup (id + 1) (d :: cs) x.2
    (a.1 :: b.1, a.2 ++ b.2)
def borCell (tok : Nat) : (c : CT) → c.den → AV
  | .int k, n => .int k n
  | .bool, b => .bool b
  | .str, s => .str s
  | .nl _, _ => .emp
  | .sl r, x => .bor (some tok) r x
  | .vs r, x => .bor none r x
def borTup : Nat → (cs : List CT) → Tup cs → List AV
  | _, [], _ => []
  | t, [c], x => [borCell t c x]
  | t, c :: d :: cs, x => borCell t c x.1 :: borTup (t + 1) (d :: cs) x.2


/-! ### decisions over a heap -/
inductive DH (α : Type) : Type 1 where
  | ret (a : α)
  | fail
  | cond (b : Bool) (t e : DH α)
  | bind (β : Type) (o : Option β) (f : β → DH α)
  | get (id : Nat) (k : Option Obj → DH α)
  | put (id : Nat) (o : Option Obj) (k : DH α)
  | len (id : Nat) (k : Option (RT × Nat) → DH α)
  | mark (id : Nat) (root : Bool) (cols : List Nat) (lo hi : Int) (k : DH α)

def DH.andThen {α β : Type} : DH α → (α → DH β) → DH β
  | .ret a, g => g a
  | .fail, _ => .fail
  | .cond b l r, g => .cond b (l.andThen g) (r.andThen g)
  | .bind γ o f, g => .bind γ o fun x => (f x).andThen g
  | .get id k, g => .get id fun o => (k o).andThen g
  | .put id o k, g => .put id o (k.andThen g)
  | .len id k, g => .len id fun o => (k o).andThen g
  | .mark id a b c d k, g => .mark id a b c d (k.andThen g)

instance : Monad DH where
  pure := .ret
  bind := DH.andThen

def DH.opt {α : Type} : Option α → DH α
  | some a => .ret a
  | none => .fail
def DH.need (b : Bool) : DH Unit := bif b then .ret () else .fail
def getD (id : Nat) : DH (Option Obj) := .get id .ret
def putD (id : Nat) (o : Option Obj) : DH Unit := .put id o (.ret ())
def lenD (id : Nat) : DH (Option (RT × Nat)) := .len id .ret
def markD (id : Nat) (root : Bool) (cols : List Nat) (lo hi : Int) : DH Unit := .mark id root cols lo hi (.ret ())
def lenO : Option Obj → Option (RT × Nat)
  | some (.row r rows) => some (r, rows.length)
  | some (.part rt _ r rows _ _) => bif rt then some (r, rows.length) else none
  | _ => none
def markO (root : Bool) (cols : List Nat) (lo hi : Int) : Option Obj → Option Obj
  | some (.row r rows) => some (.part root cols r rows lo hi)
  | some (.part rt _ r rows _ _) => some (.part (rt && root) cols r rows lo hi)
  | o => o

def wrO (h : Heap) (id : Nat) : Option Obj → Heap
  | some o => setO h id o
  | none => delO h id

def DH.go {α : Type} : DH α → Heap → Log → D (α × Heap × Log)
  | .ret a, h, l => .ret (a, h, l)
  | .fail, _, _ => .fail
  | .cond b x y, h, l => .cond b (x.go h l) (y.go h l)
  | .bind β o f, h, l => .bind β o fun z => (f z).go h l
  | .get id k, h, l => (k (getO h id)).go h ⟨id :: l.rd, l.wr, l.ln, l.wl⟩
  | .put id o k, h, l => k.go (wrO h id o) ⟨l.rd, id :: l.wr, l.ln, id :: l.wl⟩
  | .len id k, h, l => (k (lenO (getO h id))).go h ⟨l.rd, l.wr, id :: l.ln, l.wl⟩
  | .mark id a b c d k, h, l => k.go (wrO h id (markO a b c d (getO h id))) ⟨id :: l.rd, id :: l.wr, l.ln, bif a then l.wl else id :: l.wl⟩

end Go.Abs

namespace Go.Abs

/-- How a parameter is handed over: read · moved · written in place · a pointer to a box (true: that cell may be written) · a pointer to a box that is only read. -/
inductive Mode where
  | B
  | M
  | I
  | P (ws : List Bool)
  | Q

abbrev Modes := List (Mode × Bool × List CT)
structure Con where
  modes : Modes
  res : List (Bool × List CT)
  ins : List CT
  outs : List CT
  fn : Tup ins → Option (Tup outs)
abbrev Cons := List (Nat × Con)
def conOf : Cons → Nat → Option Con
  | [], _ => none
  | (s, c) :: r, f => bif Nat.beq s f then some c else conOf r f

def constAV : Value → AV
  | .int k n => .int k n
  | .bool b => .bool b
  | .string s => .str s
  | .slice none 0 0 => .nil none
  | _ => .undef
def evalO (e : Env) : Operand → AV
  | .tmp t => getE e t
  | .const v => constAV v
  | .func f => .func f []
  | .global _ => .undef
def AV.flat : AV → List AV
  | .agg cs => cs
  | v => [v]
/-- May its cells be told? -/
def AV.okF : AV → Bool
  | .undef => false
  | .tup _ => false
  | .func _ _ => false
  | _ => true
/-- The one cell of a type that is no struct. -/
def oneT (tb : Tb) (t : Nat) : Option CT := bif (tyOf tb t).agg then none else match (tyOf tb t).cells with
  | [c] => some c
  | _ => none
def mkV (agg : Bool) (cs : List AV) : AV := bif agg then .agg cs else cs.headD .undef
def zeroC : CT → AV
  | .int k => .int k 0
  | .bool => .bool false
  | .str => .str ⟨#[]⟩
  | .nl _ => .emp
  | .sl r => .nil (some r)
  | .vs r => .nil (some r)

def AV.idsS : AV → List Nat
  | .ref id _ _ => [id]
  | .ptr id _ => [id]
  | .eptr id _ _ _ => [id]
  | _ => []
def AV.ids : AV → List Nat
  | .agg cs => cs.flatMap AV.idsS
  | .tup cs => cs.flatMap AV.idsS
  | .func _ cs => cs.flatMap AV.idsS
  | v => v.idsS
/-- An object, and the columns of a path in it. -/
abbrev Pl := Nat × List Nat
/-- Do the columns lie behind those? -/
def preC : List Nat → List (Int × Nat) → Bool
  | [], _ => true
  | _ :: _, [] => false
  | c :: cs, (_, j) :: p => Nat.beq c j && preC cs p
/-- Does it name a slice inside object id, at that place or behind it? -/
def AV.deepS (id : Pl) : AV → Bool
  | .ref j (s :: p) _ => Nat.beq j id.1 && preC id.2 (s :: p)
  | .eptr j (s :: p) _ _ => Nat.beq j id.1 && preC id.2 (s :: p)
  | _ => false
def AV.deepA (id : Pl) : AV → Bool
  | .agg cs => cs.any (AV.deepS id)
  | .func _ cs => cs.any (AV.deepS id)
  | v => v.deepS id
def AV.deep (id : Pl) : AV → Bool
  | .tup cs => cs.any (AV.deepA id)
  | v => v.deepA id
def purgeV (id : Pl) (v : AV) : AV := bif v.deep id then .undef else v
def purgeE (id : Pl) : Env → Env
  | [] => []
  | (t, v) :: r => (t, purgeV id v) :: purgeE id r
def purgeO (id : Pl) : Obj → Obj
  | .box cs => .box (cs.map (purgeV id))
  | .robox cs => .robox (cs.map (purgeV id))
  | o => o
def purgeH (id : Pl) : Heap → Heap
  | [] => []
  | (t, o) :: r => (t, purgeO id o) :: purgeH id r
def purgeS : List Pl → St → St
  | [], s => s
  | id :: ids, s => purgeS ids { s with env := purgeE id s.env, heap := purgeH id s.heap }

/-! ### native data -/
def navD (id : Nat) (path : List (Int × Nat)) : DH ((q : RT) × List q.den) := do
  match ← getD id with
  | some (.row r rows) => DH.opt (navG r rows path)
  | _ => .fail
/-- The same, and of a part what is left of it. -/
def navP (id : Nat) (path : List (Int × Nat)) : DH ((q : RT) × List q.den) :=
  (getD id).andThen fun o => match o with
    | some (.row r rows) => DH.opt (navG r rows path)
    | some (.part _ cols r rows lo hi) => match path with
      | (i, j) :: p => bif memN cols j then .fail else .cond (decide (lo ≤ i) && decide (i < hi)) (DH.opt (navG r rows ((i, j) :: p))) .fail
      | [] => .fail
    | _ => .fail
def rdCell : (c : CT) → AV → DH c.den
  | .int k, .int k' n => bif IntKind.same k' k then .ret n else .fail
  | .bool, .bool b => .ret b
  | .str, .str s => .ret s
  | .nl _, .nil _ => .ret ()
  | .nl _, .emp => .ret ()
  | .sl _, .nil _ => .ret []
  | .sl _, .emp => .ret []
  | .sl r, .bor _ q x => if e : q.same r = true then .ret (castL e x) else .fail
  | .sl r, .ref id path v => (navP id path).andThen fun ⟨s, y⟩ =>
      if e : s.same r = true then .ret (viewR (castL e y) v) else .fail
  | _, _ => .fail
/-- The cell becomes part of a tree: what it owns leaves the heap. -/
def mvCell : (c : CT) → AV → DH c.den
  | .sl r, .ref id [] v => (getD id).andThen fun o => match o with
    | some (.row q x) => if e : q.same r = true then (putD id none).andThen fun _ => .ret (viewR (castL e x) v) else .fail
    | _ => .fail
  | .sl r, .ref id (s :: p) v => (navD id (s :: p)).andThen fun x => if e : x.1.same r = true then (putD id none).andThen fun _ => .ret (viewR (castL e x.2) v) else .fail
  | .sl _, .nil _ => .ret []
  | .sl _, .emp => .ret []
  | .int k, v => rdCell (.int k) v
  | .bool, v => rdCell .bool v
  | .str, v => rdCell .str v
  | .nl r, v => rdCell (.nl r) v
  | .vs r, .bor _ q x => if e : q.same r = true then .ret (castL e x) else .fail
  | .vs _, .nil _ => .ret []
  | .vs _, .emp => .ret []
  | _, _ => .fail
def mvRow : (r : RT) → List AV → DH r.den
  | .one c, [v] => mvCell c v
  | .cons c r, v :: vs => (mvCell c v).andThen fun x => (mvRow r vs).andThen fun y => .ret (x, y)
  | _, _ => .fail
def colsO : Option Obj → List Nat
  | some (.part _ cols _ _ _ _) => cols
  | _ => []
/-- The same; out of a row of an object: its other columns are left. -/
def mvCellP : (c : CT) → AV → DH c.den
  | .sl r, .ref id [(i, j)] v => (navP id [(i, j)]).andThen fun x => if e : x.1.same r = true then (getD id).andThen fun o => (markD id false (j :: colsO o) i (i + 1)).andThen fun _ => .ret (viewR (castL e x.2) v) else .fail
  | .sl r, .ref id (s :: t :: p) v => (navP id (s :: t :: p)).andThen fun x => if e : x.1.same r = true then (putD id none).andThen fun _ => .ret (viewR (castL e x.2) v) else .fail
  | c, v => mvCell c v
/-- A row's cells, each read or moved. -/
def inCell (m : Bool) (c : CT) (v : AV) : DH c.den := bif m then mvCell c v else rdCell c v
def inTup : (cs : List CT) → List (Bool × AV) → DH (Tup cs)
  | [], [] => .ret ()
  | [c], [(m, v)] => inCell m c v
  | c :: d :: cs, (m, v) :: vs => (inCell m c v).andThen fun x => (inTup (d :: cs) vs).andThen fun y => .ret (x, y)
  | _, _ => .fail

/-- Cells that a function hands back. -/
def inTupP : (cs : List CT) → List AV → DH (Tup cs)
  | [], [] => .ret ()
  | [c], [v] => mvCellP c v
  | c :: d :: cs, v :: vs => (mvCellP c v).andThen fun x => (inTupP (d :: cs) vs).andThen fun y => .ret (x, y)
  | _, _ => .fail

/-! ### memory -/
def loadC (n : Nat) : AV → DH (List AV)
  | .ptr id off => (getD id).andThen fun o => match o with
    | some (.box cs) => bif Nat.ble (off + n) cs.length then .ret ((cs.drop off).take n) else .fail
    | some (.robox cs) => bif Nat.ble (off + n) cs.length then .ret ((cs.drop off).take n) else .fail
    | _ => .fail
  | .eptr id path i c => (navD id path).andThen fun ⟨q, rs⟩ => .ret (((RT.toO id path i 0 q (rs.getD i.toNat q.dflt)).drop c).take n)
  | .bptr r row c => .ret (((RT.toB r row).drop c).take n)
  | _ => .fail

/-- Is it the very slice that lies there already? -/
def selfAt (self : Nat) (path : List (Int × Nat)) (j : Nat) : AV → Option Int
  | .ref id [(i', j')] none => bif Nat.beq id self && (Nat.beq j' j && path.isEmpty) then some i' else none
  | _ => none
/-- Cell j of the element i of the slice at path in object self; told: the columns whose slices are others now. -/
def wrCell (self : Nat) (path : List (Int × Nat)) (i : Int) (j : Nat) (c : CT) (d : c.den) (v : AV) : DH (c.den × List Nat) :=
  match (bif c.flat then none else selfAt self path j v) with
  | some i' => .cond (decide (i = i')) (.ret (d, [])) .fail
  | none => (mvCell c v).andThen fun x => .ret (x, bif c.flat then [] else [j])
def wrOne (self : Nat) (path : List (Int × Nat)) (i : Int) (j : Nat) (c : CT) (d : c.den) : Nat → List AV → DH (c.den × List Nat)
  | _, [] => .ret (d, [])
  | 0, [v] => wrCell self path i j c d v
  | _, _ => .fail
def wrCons (self : Nat) (path : List (Int × Nat)) (i : Int) (j : Nat) (c : CT) (r : RT) (d : c.den × r.den) (rec : Nat → List AV → DH (r.den × List Nat)) : Nat → List AV → DH ((c.den × r.den) × List Nat)
  | _, [] => .ret (d, [])
  | n + 1, v :: vs => (rec n (v :: vs)).andThen fun y => .ret ((d.1, y.1), y.2)
  | 0, v :: vs => (wrCell self path i j c d.1 v).andThen fun x => (rec 0 vs).andThen fun y => .ret ((x.1, y.1), x.2 ++ y.2)
/-- An element's cells from c on are written; a slice that goes in leaves the heap. -/
def wrCells (self : Nat) (path : List (Int × Nat)) (i : Int) : (j : Nat) → (r : RT) → r.den → (c : Nat) → List AV → DH (r.den × List Nat)
  | j, .one c, d, n, vs => wrOne self path i j c d n vs
  | j, .cons c r, d, n, vs => wrCons self path i j c r d (fun n vs => wrCells self path i (j + 1) r d.2 n vs) n vs

def setCells : List AV → Nat → List AV → List AV
  | cs, _, [] => cs
  | cs, off, v :: vs => setCells (cs.set off v) (off + 1) vs

/-- What is told: the object whose inner slices are others now. -/
def storeC (vs : List AV) : AV → DH (List Pl)
  | .ptr id off => (getD id).andThen fun o => match o with
    | some (.box cs) => bif Nat.ble (off + vs.length) cs.length then (putD id (some (.box (setCells cs off vs)))).andThen fun _ => .ret [] else .fail
    | _ => .fail
  | .eptr id path i c => (navD id path).andThen fun ⟨q, rs⟩ =>
      (wrCells id path i 0 q (rs.getD i.toNat q.dflt) c vs).andThen fun d =>
        (getD id).andThen fun o => match o with
        | some (.row r rows) => match navS r rows path q (rs.set i.toNat d.1) with
          | some rows' => .bind _ (some rows') fun z => (putD id (some (.row r z))).andThen fun _ => .ret (d.2.map fun j => (id, path.map (·.2) ++ [j]))
          | none => .fail
        | _ => .fail
  | _ => .fail

/-! ### operations on plain values -/
def cmpI (op : BinOp) (x y : Int) : AV :=
  match op with
  | .eql => .bool (decide (x = y))
  | .neq => .bool (!decide (x = y))
  | .lss => .bool (decide (x < y))
  | .leq => .bool (decide (x ≤ y))
  | .gtr => .bool (decide (y < x))
  | .geq => .bool (decide (y ≤ x))
  | _ => .undef
def bitI (op : BinOp) (k : IntKind) (x y : Int) : Int :=
  match op with
  | .and => k.wrap ((BitVec.ofInt k.bits x &&& BitVec.ofInt k.bits y).toNat : Int)
  | .or => k.wrap ((BitVec.ofInt k.bits x ||| BitVec.ofInt k.bits y).toNat : Int)
  | .xor => k.wrap ((BitVec.ofInt k.bits x ^^^ BitVec.ofInt k.bits y).toNat : Int)
  | _ => 0
def shlI (k : IntKind) (x y : Int) : Int := k.wrap (x * 2 ^ (min y.toNat k.bits))
def shrI (k : IntKind) (x y : Int) : Int := x.fdiv (2 ^ (min y.toNat k.bits))
def binI (op : BinOp) (k : IntKind) (x y : Int) : DH AV :=
  match op with
  | .add => .ret (.int k (k.wrap (x + y)))
  | .sub => .ret (.int k (k.wrap (x - y)))
  | .mul => .ret (.int k (k.wrap (x * y)))
  | .quo => .cond (decide (y = 0)) .fail (.ret (.int k (k.wrap (x.tdiv y))))
  | .rem => .cond (decide (y = 0)) .fail (.ret (.int k (x.tmod y)))
  | .and => .ret (.int k (bitI .and k x y))
  | .or => .ret (.int k (bitI .or k x y))
  | .xor => .ret (.int k (bitI .xor k x y))
  | .shl => .cond (decide (y < 0)) .fail (.ret (.int k (shlI k x y)))
  | .shr => .cond (decide (y < 0)) .fail (.ret (.int k (shrI k x y)))
  | .eql | .neq | .lss | .leq | .gtr | .geq => .ret (cmpI op x y)
  | _ => .fail
def eqC : CT → AV → AV → Option Bool
  | .int q, .int k x, .int k' y => bif IntKind.same k q && IntKind.same k' q then some (decide (x = y)) else none
  | .bool, .bool x, .bool y => some (x == y)
  | _, _, _ => none
def eqCs : List CT → List AV → List AV → Option Bool
  | [], [], [] => some true
  | [c], [x], [y] => eqC c x y
  | c :: cs, x :: xs, y :: ys => match eqC c x y, eqCs cs xs ys with
    | some a, some b => some (a && b)
    | _, _ => none
  | _, _, _ => none
/-- A struct of plain cells. -/
def CT.isIB : CT → Bool
  | .int _ => true
  | .bool => true
  | _ => false
def flatI (I : TyI) : Bool := I.agg && (!I.cells.isEmpty && Nat.beq I.fields.length I.cells.length && I.cells.all CT.isIB)
def isShift : BinOp → Bool
  | .shl | .shr => true
  | _ => false
def nilEq : AV → Option Bool
  | .nil _ => some true
  | .bor (some t) _ _ => bif Nat.ble 1000 t then some false else none
  | _ => none
def CT.isSl : CT → Bool
  | .sl _ => true
  | _ => false
def CT.isBool : CT → Bool
  | .bool => true
  | _ => false
/-- The type: a struct (whose parts are compared one by one), or of one cell. -/
def binO (tb : Tb) (t : Nat) (op : BinOp) (x y : AV) : DH AV :=
  match x, y with
  | x, .nil none => match op, nilEq x, oneT tb t with
    | .eql, some b, some (.sl _) => .ret (.bool b)
    | .neq, some b, some (.sl _) => .ret (.bool (!b))
    | .eql, some b, some (.nl _) => .ret (.bool b)
    | .neq, some b, some (.nl _) => .ret (.bool (!b))
    | _, _, _ => .fail
  | .int k a, .int k' b => bif IntKind.same k k' || isShift op then binI op k a b else .fail
  | .bool a, .bool b => match op, oneT tb t with
    | .eql, some .bool => .ret (.bool (a == b))
    | .neq, some .bool => .ret (.bool (!(a == b)))
    | _, _ => .fail
  | .str a, .str b => match op with
    | .eql => .ret (.bool (a.toList == b.toList))
    | .neq => .ret (.bool (!(a.toList == b.toList)))
    | .add => .cond (decide (((a.size + b.size : Nat) : Int) ≤ 140737488355328)) (.ret (.str (a ++ b))) .fail
    | _ => .fail
  | .agg xs, .agg ys => bif flatI (tyOf tb t) && Nat.beq xs.length (tyOf tb t).cells.length then match op, eqCs (tyOf tb t).cells xs ys with
    | .eql, some b => .ret (.bool b)
    | .neq, some b => .ret (.bool (!b))
    | _, _ => .fail
    else .fail
  | _, _ => .fail
def pickV (c : Bool) : AV → AV → DH AV
  | .int k x, .int k' y => bif IntKind.same k k' then .ret (.int k (_root_.cond c x y)) else .fail
  | .bool x, .bool y => .ret (.bool (_root_.cond c x y))
  | x, y => .cond c (.ret x) (.ret y)
def bytesOfRows (x : List Int) : ByteArray := ⟨(x.map fun n => UInt8.ofNat n.toNat).toArray⟩

def limOf (bytes : Nat) : Nat := 140737488355328 / bytes

def partsAt (parts : List (Nat × Operand)) (i : Nat) : Option Operand :=
  match parts with
  | [] => none
  | (j, x) :: r => bif Nat.beq j i then some x else partsAt r i
def litRows (e : Env) (r : RT) (parts : List (Nat × Operand)) : Nat → (i : Nat) → DH (List r.den)
  | 0, _ => .ret []
  | n + 1, i => match partsAt parts i with
    | some x => bif (evalO e x).okF then (mvRow r (evalO e x).flat).andThen fun d => (litRows e r parts n (i + 1)).andThen fun ds => .ret (d :: ds) else .fail
    | none => (litRows e r parts n (i + 1)).andThen fun ds => .ret (r.dflt :: ds)
/-- Each part's place is named once. -/
def onceP : List (Nat × Operand) → Bool
  | [] => true
  | (i, _) :: r => (r.all fun p => !Nat.beq p.1 i) && onceP r
def buildCells (tb : Tb) (e : Env) (fs : List (Nat × Nat)) : List AV → List (Nat × Operand) → Option (List AV)
  | cs, [] => some cs
  | cs, (i, x) :: ps => match fs[i]? with
    | some (off, t) =>
      let vs := (evalO e x).flat
      bif (evalO e x).okF && (Nat.beq vs.length (tyOf tb t).cells.length && (Nat.ble (off + vs.length) cs.length && !(tyOf tb t).cells.isEmpty)) then buildCells tb e fs (setCells cs off vs) ps else none
    | none => none

def sliceV (x : AV) (n : Int) (lo hi : Option Int) (k : Option (Int × Int) → AV) : DH AV :=
  match lo, hi with
  | none, none => .ret x
  | some l, none => .cond (decide (0 ≤ l) && decide (l ≤ n)) (.ret (k (some (l, n - l)))) .fail
  | none, some h => .cond (decide (0 ≤ h) && decide (h ≤ n)) (.ret (k (some (0, h)))) .fail
  | some l, some h => .cond (decide (0 ≤ l) && (decide (l ≤ h) && decide (h ≤ n))) (.ret (k (some (l, h - l)))) .fail
def cutL {α : Type} (x : List α) : Option Int → Option Int → List α
  | none, none => x
  | some l, none => x.drop l.toNat
  | none, some h => x.take h.toNat
  | some l, some h => (x.take h.toNat).drop l.toNat
def intOpt (e : Env) : Option Operand → Option (Option Int)
  | none => some none
  | some o => match evalO e o with
    | .int _ n => some (some n)
    | _ => none

inductive X where
  | normal
  | exit (id : Nat)
  | ret
structure ExitC where
  x : X
  keep : List Nat
  tmpl : St
  cts : List CT
def SumT : List ExitC → Type
  | [] => Empty
  | [e] => Tup e.cts
  | e :: d :: es => Tup e.cts ⊕ SumT (d :: es)
structure LoopCon where
  c0 : Nat
  d : Nat
  keep : List Nat
  tmpl : St
  ins : List CT
  exits : List ExitC
  fn : Tup ins → Option (SumT exits)
abbrev Loops := List (Nat × LoopCon)

structure Ctx where
  tb : Tb
  cons : Cons
  loops : Loops
  inl : Bool
  dep : Nat
  ptrs : List (Nat × List (Int × Nat) × Nat)   -- functions that only pick a field's place: by a number, or else
  fz : List (Nat × Nat × List Nat)   -- loops while which a local slice is only lent: its slot, the others that are
def ptrOf : List (Nat × List (Int × Nat) × Nat) → Nat → Option (List (Int × Nat) × Nat)
  | [], _ => none
  | (s, c) :: r, f => bif Nat.beq s f then some c else ptrOf r f
def pickP (id : Nat) (l : Int) : List (Int × Nat) → Nat → D AV
  | [], z => .ret (.ptr id z)
  | (n, z) :: r, y => .cond (decide (l = n)) (.ret (.ptr id z)) (pickP id l r y)

/-- A piece of a whole object leaves it: the rest stays, as a part. -/
def topView : AV → Option (Nat × Int × Int)
  | .ref id [] (some (o, l)) => some (id, o, l)
  | _ => none
def mvPart (r : RT) (v : AV) : DH (List r.den) :=
  match topView v with
  | some (id, o, l) => (getD id).andThen fun ob => match ob with
    | some (.row q x) => if e : q.same r = true then (markD id true [] (o + l) (x.length : Int)).andThen fun _ => .ret (viewR (castL e x) (some (o, l))) else .fail
    | some (.part true [] q x lo hi) => if e : q.same r = true then .cond (decide (lo ≤ o) && decide (o + l ≤ hi)) ((markD id true [] lo o).andThen fun _ => .ret (viewR (castL e x) (some (o, l)))) .fail else .fail
    | _ => .fail
  | none => mvCell (.sl r) v
/-- What is added by an append: flat rows are read, others moved. -/
def addRows (r : RT) (src : AV) : DH (List r.den) := bif r.flat then rdCell (.sl r) src else mvPart r src
def appendD (tb : Tb) (id : Nat) (t : Nat) (dst src : AV) : DH AV :=
  match (tyOf tb t).row with
  | none => .fail
  | some r => (addRows r src).andThen fun x =>
    let lim := limOf (tyOf tb t).bytes
    match dst with
    | .nil _ | .emp => .cond (Nat.blt x.length lim) ((putD id (some (.row r x))).andThen fun _ => .ret (.ref id [] none)) .fail
    | .ref j [] v => (getD j).andThen fun o => match o with
      | some (.row q y) => if e : q.same r = true then
          .cond (match v with | none => true | some (o, l) => decide (0 ≤ o) && decide (o + l = (y.length : Int)))
            (.cond (Nat.blt ((viewR y v).length + x.length) lim)
              (.bind _ (some (viewR (castL e y) v ++ x)) fun z => (putD j none).andThen fun _ => (putD id (some (.row r z))).andThen fun _ => .ret (.ref id [] none)) .fail) .fail
        else .fail
      | _ => .fail
    | _ => .fail

end Go.Abs

namespace Go.Abs

/-! ### calls by contract -/
/-- A value of that many cells: a struct, or one. -/
def shapeV (a : Bool) (n : Nat) : AV → Bool
  | .agg xs => a && Nat.beq xs.length n
  | v => !a && (Nat.beq 1 n && v.isS)
def shapesV : List (Bool × List CT) → List AV → Bool
  | [], [] => true
  | (a, cs) :: r, v :: vs => shapeV a cs.length v && shapesV r vs
  | _, _ => false
def argCells : Modes → List AV → DH (List (Bool × AV))
  | [], [] => .ret []
  | (m, a, cs) :: ms, v :: vs => (argCells ms vs).andThen fun rest => match m with
      | .B | .I => bif shapeV a cs.length v then .ret (v.flat.map (fun x => (false, x)) ++ rest) else .fail
      | .M => bif shapeV a cs.length v then .ret (v.flat.map (fun x => (true, x)) ++ rest) else .fail
      | .Q => match v with
        | .ptr id 0 => (getD id).andThen fun o => match o with
          | some (.box xs) | some (.robox xs) => bif Nat.beq xs.length cs.length then .ret (xs.map (fun x => (false, x)) ++ rest) else .fail
          | _ => .fail
        | _ => .fail
      | .P ws => match v with
        | .ptr id 0 => (getD id).andThen fun o => match o with
          | some (.box xs) => bif Nat.beq xs.length cs.length && Nat.beq ws.length cs.length then .ret ((ws.zip xs) ++ rest) else .fail
          | _ => .fail
        | _ => .fail
  | _, _ => .fail
/-- Which ids a parameter's value only reads, and which it may turn. -/
def argIds : Modes → List AV → DH (List Nat × List Nat)
  | (m, _, _) :: ms, v :: vs => (argIds ms vs).andThen fun r => match m with
    | .B => .ret (v.ids ++ r.1, r.2)
    | .M | .I => .ret (r.1, v.ids ++ r.2)
    | .Q => match v with
      | .ptr id _ => (getD id).andThen fun o => match o with
        | some (.box xs) | some (.robox xs) => .ret (id :: (xs.flatMap AV.idsS ++ r.1), r.2)
        | _ => .fail
      | _ => .fail
    | .P ws => match v with
      | .ptr id _ => (getD id).andThen fun o => match o with
        | some (.box xs) => .ret (((ws.zip xs).flatMap fun x => bif x.1 then [] else x.2.idsS) ++ r.1, id :: (((ws.zip xs).flatMap fun x => bif x.1 then x.2.idsS else []) ++ r.2))
        | _ => .fail
      | _ => .fail
  | _, _ => .ret ([], [])

def dup : List Nat → Bool
  | [] => false
  | x :: xs => memN xs x || dup xs
def meets (a b : List Nat) : Bool := a.any (memN b)

/-- A cell that came back, as the new object that it is. -/
def outRow (nh : Heap) : AV → Option ((q : RT) × List q.den)
  | .ref j [] none => match getO nh j with
    | some (.row q x) => some ⟨q, x⟩
    | _ => none
  | _ => none
/-- The rows that a call hands back go where they were; told: objects whose inner slices may be others now. -/
def backI (nh : Heap) : List CT → List AV → List AV → DH (List AV × List Nat)
  | [], [], os => .ret (os, [])
  | c :: cs, v :: vs, os => bif c.isSl then
      match os with
      | o :: os' => match v, outRow nh o with
        | .ref id [] none, some ⟨q, x⟩ => (getD id).andThen fun ob => match ob with
          | some (.row r _) => bif q.same r then (putD id (some (.row q x))).andThen fun _ =>
                (backI nh cs vs os').andThen fun y => .ret (y.1, bif q.flat then y.2 else id :: y.2) else .fail
          | _ => .fail
        | _, _ => .fail
      | [] => .fail
    else backI nh cs vs os
  | _, _, _ => .fail
def backP : List Bool → List AV → List AV → Option (List AV × List AV)
  | [], [], os => some ([], os)
  | true :: ws, _ :: xs, o :: os => (backP ws xs os).map fun y => (o :: y.1, y.2)
  | false :: ws, x :: xs, os => (backP ws xs os).map fun y => (x :: y.1, y.2)
  | _, _, _ => none
def backs (nh : Heap) : Modes → List AV → List AV → DH (List Nat)
  | [], [], [] => .ret []
  | (m, _, cs) :: ms, v :: vs, os => match m with
    | .I => (backI nh cs v.flat os).andThen fun y => (backs nh ms vs y.1).andThen fun z => .ret (y.2 ++ z)
    | .P ws => match v with
      | .ptr id _ => (getD id).andThen fun o => match o with
        | some (.box xs) => match backP ws xs os with
          | some (ys, os') => (putD id (some (.box ys))).andThen fun _ => (putNew nh (ys.flatMap AV.idsS)).andThen fun _ => backs nh ms vs os'
          | none => .fail
        | _ => .fail
      | _ => .fail
    | _ => backs nh ms vs os
  | _, _, _ => .fail
  where
  putNew (nh : Heap) : List Nat → DH Unit
    | [] => .ret ()
    | id :: ids => match getO nh id with
      | some o => (putD id (some o)).andThen fun _ => putNew nh ids
      | none => putNew nh ids
def packRes : List (Bool × List CT) → List AV → List AV × List AV
  | [], vs => ([], vs)
  | (a, cs) :: rs, vs => let r := packRes rs (vs.drop cs.length); (mkV a (vs.take cs.length) :: r.1, r.2)
def oneOrTup : List AV → AV
  | [v] => v
  | vs => .tup vs

def callB (nb : Nat) (k : Con) (vs : List AV) : DH (AV × List Pl) :=
  (argIds k.modes vs).andThen fun ids =>
  bif dup ids.2 || meets ids.1 ids.2 || Nat.blt 16 k.outs.length || !k.ins.all CT.noVs then .fail else
  (argCells k.modes vs).andThen fun xs => (inTup k.ins xs).andThen fun x => .bind _ (k.fn x) fun y =>
    let nw := newTup nb k.outs y
    let pr := packRes k.res nw.1
    (backs.putNew nw.2 (pr.1.flatMap AV.ids)).andThen fun _ => (backs nw.2 k.modes vs pr.2).andThen fun z => .ret (oneOrTup pr.1, z.map fun i => (i, []))

/-! ### contracts of all modes -/
def Mode.isB : Mode → Bool
  | .B => true
  | _ => false
def Con.allB (k : Con) : Bool := k.modes.all fun m => m.1.isB
/-- How a cell is handed over: read, written in place, moved. -/
inductive CK where
  | B
  | O
  | U
def CK.own : CK → Bool
  | .B => false
  | _ => true
def Mode.ks : Mode → Nat → List CK
  | .I, n => List.replicate n .O
  | .M, n => List.replicate n .U
  | .P ws, _ => ws.map fun w => bif w then .U else .B
  | _, n => List.replicate n .B
def ksOf : Modes → List CK
  | [] => []
  | (m, _, cs) :: ms => m.ks cs.length ++ ksOf ms
def ctsOf : Modes → List CT
  | [] => []
  | (_, _, cs) :: ms => cs ++ ctsOf ms
def CT.isS : CT → Bool
  | .sl _ => true
  | _ => false
def slOf {α : Type} : List CT → List α → List α
  | c :: cs, x :: xs => bif c.isS then x :: slOf cs xs else slOf cs xs
  | _, _ => []
def selT {α : Type} : List Bool → List α → List α
  | w :: ws, x :: xs => bif w then x :: selT ws xs else selT ws xs
  | _, _ => []
def cnt : List Bool → Nat
  | [] => 0
  | w :: ws => bif w then cnt ws + 1 else cnt ws
def mrg {α : Type} : List Bool → List α → List α → List α
  | true :: ws, _ :: xs, o :: os => o :: mrg ws xs os
  | false :: ws, x :: xs, os => x :: mrg ws xs os
  | _, _, _ => []
def okO : AV → Bool
  | .ref _ [] none => true
  | .int _ _ => true
  | .bool _ => true
  | .str _ => true
  | _ => false
/-- The arguments' cells; the boxes that may be turned (they leave the heap); the boxes that are read. -/
def argG : Modes → List AV → DH (List AV × List Nat × List Nat)
  | [], [] => .ret ([], [], [])
  | (m, a, cs) :: ms, v :: vs => (argG ms vs).andThen fun r => match m with
    | .Q => match v with
      | .ptr id 0 => (getD id).andThen fun o => match o with
        | some (.box xs) | some (.robox xs) => bif Nat.beq xs.length cs.length then .ret (xs ++ r.1, r.2.1, id :: r.2.2) else .fail
        | _ => .fail
      | _ => .fail
    | .P _ => match v with
      | .ptr id 0 => (getD id).andThen fun o => match o with
        | some (.box xs) => bif Nat.beq xs.length cs.length then (putD id none).andThen fun _ => .ret (xs ++ r.1, id :: r.2.1, r.2.2) else .fail
        | _ => .fail
      | _ => .fail
    | .I => bif shapeV a cs.length v && v.flat.all okO then .ret (v.flat ++ r.1, r.2) else .fail
    | _ => bif shapeV a cs.length v then .ret (v.flat ++ r.1, r.2) else .fail
  | _, _ => .fail
def alive : List Nat → DH Unit
  | [] => .ret ()
  | id :: ids => (getD id).andThen fun o => match o with
    | some _ => alive ids
    | none => .fail
def rdIds : List CK → List AV → List Nat
  | k :: ks, x :: xs => bif k.own then rdIds ks xs else x.idsS ++ rdIds ks xs
  | _, _ => []
def CK.isO : CK → Bool
  | .O => true
  | _ => false
def oIds : List CK → List AV → List Nat
  | k :: ks, x :: xs => bif k.isO then x.idsS ++ oIds ks xs else oIds ks xs
  | _, _ => []
def zipK : List CK → List AV → List (Bool × AV)
  | k :: ks, x :: xs => (k.own, x) :: zipK ks xs
  | _, _ => []
def putO (nh : Heap) (id : Nat) (o : AV) : DH Unit := match o with
  | .ref j _ _ => match getO nh j with
    | some ob => putD id (some ob)
    | none => .fail
  | _ => .fail
def backO (nh : Heap) : List CT → List AV → List AV → DH (List AV)
  | [], [], os => .ret os
  | c :: cs, v :: vs, os => bif c.isS then match v, os with
      | .ref id _ _, o :: os' => (putO nh id o).andThen fun _ => backO nh cs vs os'
      | _, _ => .fail
    else backO nh cs vs os
  | _, _, _ => .fail
def backG (nh : Heap) : Modes → List AV → List AV → List AV → DH Unit
  | [], [], _, [] => .ret ()
  | (m, _, cs) :: ms, v :: vs, xs, os => match m with
    | .I => (backO nh cs (xs.take cs.length) os).andThen fun os' => backG nh ms vs (xs.drop cs.length) os'
    | .P ws => match v with
      | .ptr id _ => (putD id (some (.box (mrg ws (xs.take cs.length) (os.take (cnt ws)))))).andThen fun _ =>
          (backs.putNew nh ((os.take (cnt ws)).flatMap AV.idsS)).andThen fun _ => backG nh ms vs (xs.drop cs.length) (os.drop (cnt ws))
      | _ => .fail
    | _ => backG nh ms vs (xs.drop cs.length) os
  | _, _, _, _ => .fail
def callG (nb : Nat) (k : Con) (vs : List AV) : DH (AV × List Pl) :=
  bif Nat.blt 16 k.outs.length || !k.ins.all CT.noVs then .fail else
  (argG k.modes vs).andThen fun r => bif dup (oIds (ksOf k.modes) r.1) then .fail else
  (inTup k.ins (zipK (ksOf k.modes) r.1)).andThen fun x => (alive (rdIds (ksOf k.modes) r.1 ++ r.2.2)).andThen fun _ => .bind _ (k.fn x) fun y =>
    let nw := newTup nb k.outs y
    let pr := packRes k.res nw.1
    (backs.putNew nw.2 (pr.1.flatMap AV.ids)).andThen fun _ => (backG nw.2 k.modes vs r.1 pr.2).andThen fun _ => .ret (oneOrTup pr.1, (oIds (ksOf k.modes) r.1).map fun i => (i, []))
/-- A slice inside an object is lent: it is an object of its own while the call runs. -/
def deepOf : Modes → List AV → Option (Nat × List (Int × Nat) × List AV)
  | (.I, _, _) :: _, .ref id (s :: p) none :: vs => some (id, s :: p, vs)
  | _, _ => none
def callD (nb : Nat) (k : Con) (vs : List AV) : DH (AV × List Pl) :=
  match deepOf k.modes vs with
  | none => callG nb k vs
  | some (id, p, vs') => bif Nat.blt 15 k.outs.length then .fail else (getD id).andThen fun o => match o with
    | some (.row r x) => match navG r x p with
      | some ⟨q, y⟩ => (putD id none).andThen fun _ => (putD (nb + 15) (some (.row q y))).andThen fun _ =>
          (callG nb k (.ref (nb + 15) [] none :: vs')).andThen fun a => bif (a.2.any fun x => Nat.beq x.1 id) || a.1.deep (id, []) then .fail else (getD (nb + 15)).andThen fun o' => match o' with
            | some (.row q' y') => bif q'.same q then match navS r x p q' y' with
                | some x' => (putD (nb + 15) none).andThen fun _ => (putD id (some (.row r x'))).andThen fun _ => .ret (a.1, a.2 ++ [(id, [])])
                | none => .fail
              else .fail
            | _ => .fail
      | none => .fail
    | _ => .fail
/-- slices.Delete: a new object; of the old one the rows that fell out are left. -/
def delOp (r : RT) (nb : Nat) : List AV → DH (AV × List Pl)
  | [.ref id [] none, .int .i64 i, .int .i64 j] => (getD id).andThen fun o => match o with
    | some (.row q rows) => bif q.same r then .cond (decide (0 ≤ i) && (decide (i ≤ j) && decide (j ≤ (rows.length : Int))))
        (.bind _ (some (rows.take i.toNat ++ rows.drop j.toNat)) fun z => (markD id false [] i j).andThen fun _ => (putD nb (some (.row q z))).andThen fun _ => .ret (.ref nb [] none, [])) .fail else .fail
    | _ => .fail
  | _ => .fail

/-- A contract without parameters that has an argument is that of slices.Delete. -/
def delK (k : Con) : Option RT := match k.modes, k.ins with
  | [], [.sl r] => some r
  | _, _ => none
def callCon (nb : Nat) (k : Con) (vs : List AV) : DH (AV × List Pl) := match delK k with
  | some r => delOp r nb vs
  | none => bif k.allB then callB nb k vs else callD nb k vs

/-! ### one operation -/
def typedNil (tb : Tb) (t : Nat) (v : AV) : AV :=
  match v with
  | .nil none => match (tyOf tb t).cells with
    | [.sl r] => .nil (some r)
    | _ => .nil none
  | v => v
/-- A value of one cell. -/
def AV.okS : AV → Bool
  | .undef => false
  | .agg _ => false
  | .tup _ => false
  | .func _ _ => false
  | _ => true
def sameOp : Operand → Operand → Bool
  | .tmp a, .tmp b => Nat.beq a b
  | .const (.int _ a), .const (.int _ b) => decide (a = b)
  | _, _ => false
def isStrT (tb : Tb) (t : Nat) : Bool :=
  match oneT tb t with
  | some .str => true
  | _ => false
/-- Is it a slice's type, with such elements? -/
def isSlT (tb : Tb) (t : Nat) (q : RT) : Bool :=
  match oneT tb t with
  | some (.sl r) => q.same r || q.same r.toVs
  | _ => false
def isSlT0 (tb : Tb) (t : Nat) : Bool :=
  match oneT tb t with
  | some (.sl _) => true
  | _ => false

def isNlT (tb : Tb) (t : Nat) : Bool :=
  match oneT tb t with
  | some (.nl _) => true
  | _ => false
/-- Is it a slice of none, without room? -/
def isNE : AV → Bool
  | .nil _ => true
  | .emp => true
  | _ => false

/-- Is it a slice of none? -/
def isNS : AV → Bool
  | .nil _ => true
  | .emp => true
  | .bor _ _ [] => true
  | _ => false

def evCall (tb : Tb) (nb : Nat) (vs : List AV) (k : Call) : DH (AV × List Pl) :=
  let r (v : AV) : DH (AV × List Pl) := .ret (v, [])
  match k.callee with
  | .builtin .len => match vs, k.argTypes.toList with
    | [.str b], t :: _ => bif isStrT tb t then r (.int .i64 (b.size : Int)) else .fail
    | [.nil _], t :: _ => bif isSlT0 tb t || isNlT tb t then r (.int .i64 0) else .fail
    | [.emp], t :: _ => bif isSlT0 tb t || isNlT tb t then r (.int .i64 0) else .fail
    | [.bor _ _ rows], t :: _ => bif isSlT0 tb t then r (.int .i64 (rows.length : Int)) else .fail
    | [.ref id path v], t :: _ => bif isSlT0 tb t then (navD id path).andThen fun ⟨_, rs⟩ => r (.int .i64 (lenR rs v)) else .fail
    | _, _ => .fail
  | .builtin .append => match vs, k.argTypes.toList with
    | [a, b], [t, u] => bif isNlT tb t && (Nat.beq t u && (isNE a && isNS b)) then r .emp else bif isSlT0 tb t && Nat.beq t u then (appendD tb nb (tyOf tb t).elem a b).andThen r else .fail
    | _, _ => .fail
  | .builtin .min => match vs with
    | [.int k a, .int k' b] => bif IntKind.same k k' then r (.int k (_root_.cond (decide (b < a)) b a)) else .fail
    | _ => .fail
  | _ => .fail

/-- All operations but calls of Go functions. -/
def opEval (tb : Tb) (e : Env) (nb : Nat) (ty : Nat) (o : Op) : DH (AV × List Pl) :=
  let r (v : AV) : DH (AV × List Pl) := .ret (v, [])
  match o with
  | .move x | .assign x => r (typedNil tb ty (evalO e x))
  | .pick x a b => match evalO e x with
    | .bool t => (pickV t (evalO e a) (evalO e b)).andThen r
    | _ => .fail
  | .alloc t => match (tyOf tb t).cells with
    | [] => .fail
    | cs => (putD nb (some (.box (cs.map zeroC)))).andThen fun _ => r (.ptr nb 0)
  | .box t x =>
    let vs := (evalO e x).flat
    bif Nat.beq vs.length (tyOf tb t).cells.length && Nat.ble 1 vs.length && vs.all AV.okS then (putD nb (some (.box vs))).andThen fun _ => r (.ptr nb 0) else .fail
  | .build t parts => bif (tyOf tb t).agg && !(tyOf tb t).cells.isEmpty then
      match buildCells tb e (tyOf tb t).fields ((tyOf tb t).cells.map zeroC) parts.toList with
      | some cs => r (.agg cs)
      | none => .fail
    else .fail
  | .buildSlice t n parts => bif isNlT tb t && (Nat.beq n 0 && parts.toList.isEmpty) then r .emp else match (tyOf tb (tyOf tb t).elem).row with
    | some q => bif isSlT tb t q && (Nat.ble (n * q.size) 16777216 && (onceP parts.toList && (parts.toList.all fun p => Nat.blt p.1 n))) then
        (litRows e q parts.toList n 0).andThen fun rows => (putD nb (some (.row q rows))).andThen fun _ => r (.ref nb [] none)
      else .fail
    | none => .fail
  | .load t a => (loadC (tyOf tb t).cells.length (evalO e a)).andThen fun cs =>
      bif Nat.beq cs.length (tyOf tb t).cells.length && Nat.ble 1 cs.length then r (mkV (tyOf tb t).agg cs) else .fail
  | .store t a x =>
    let vs := (evalO e x).flat
    bif Nat.beq vs.length (tyOf tb t).cells.length && (Nat.ble 1 vs.length && vs.all AV.okS) then (storeC vs (evalO e a)).andThen fun z => .ret (.undef, z) else .fail
  | .nilCheck x => match evalO e x with
    | .ptr id off => r (.ptr id off)
    | .eptr id p i j => r (.eptr id p i j)
    | .func f cs => r (.func f cs)
    | _ => .fail
  | .binOp op t x y _ => (binO tb t op (evalO e x) (evalO e y)).andThen r
  | .unOp op _ x => match op, evalO e x with
    | .neg, .int k n => r (.int k (k.wrap (0 - n)))
    | .not, .bool b => r (.bool (!b))
    | _, _ => .fail
  | .convert a b x => match oneT tb a, oneT tb b, evalO e x with
    | some (.int _), some (.int k), .int _ n => r (.int k (k.wrap n))
    | some .str, some .str, .str x => r (.str x)
    | some (.sl (.one (.int .u8))), some .str, v => match oneT tb (tyOf tb a).elem with
      | some (.int .u8) => (rdCell (.sl (.one (.int .u8))) v).andThen fun rows => r (.str (bytesOfRows rows))
      | _ => .fail
    | _, _, _ => .fail
  | .makeFunc (.func f) first cap => bif first.isEmpty && (cap.toList.map (evalO e)).all AV.isS then r (.func f (cap.toList.map (evalO e))) else .fail
  | .makeSlice t l cp => match evalO e l, evalO e cp with
    | .int .i64 n, .int .i64 _ => match (tyOf tb (tyOf tb t).elem).row with
      | some q => bif isSlT tb t q && sameOp l cp then
          .cond (decide (0 ≤ n) && Nat.ble n.toNat (limOf (tyOf tb (tyOf tb t).elem).bytes))
            ((putD nb (some (.row q (List.replicate n.toNat q.dflt)))).andThen fun _ => r (.ref nb [] none)) .fail
        else .fail
      | none => .fail
    | _, _ => .fail
  | .slice t x lo hi mx => match mx with
    | some m => match lo, hi, m with
      | none, some (.const (.int .i64 0)), .const (.int .i64 0) => bif isSlT0 tb t || isNlT tb t then match evalO e x with
        | .bor .. | .ref .. | .nil _ | .emp => r .emp
        | _ => .fail
        else .fail
      | _, _, _ => .fail
    | none => match intOpt e lo, intOpt e hi with
    | some l, some h => match evalO e x with
      | .str b => bif isStrT tb t then
          (sliceV (.str b) (b.size : Int) l h (fun v => match v with | some (a, n) => .str (b.extract a.toNat (a + n).toNat) | none => .str b)).andThen r
        else .fail
      | .nil q => bif isSlT0 tb t then (sliceV (.nil q) 0 l h (fun _ => .nil q)).andThen r else .fail
      | .bor k q rows => bif !isSlT tb t q then .fail else (sliceV (.bor k q rows) (rows.length : Int) l h (fun _ => .bor none q (cutL rows l h))).andThen r
      | .ref id [] v => (lenD id).andThen fun z => match z with
        | some (q, n) => bif !isSlT tb t q then .fail else (sliceV (.ref id [] v) (lenN n v) l h (fun w => match v, w with
              | none, w => .ref id [] w
              | some (a, _), some (b, n) => .ref id [] (some (a + b, n))
              | v, none => .ref id [] v)).andThen r
        | none => .fail
      | .ref id path v => (navD id path).andThen fun ⟨q, rs⟩ => bif !isSlT tb t q then .fail else (sliceV (.ref id path v) (lenR rs v) l h (fun w => match v, w with
              | none, w => .ref id path w
              | some (a, _), some (b, n) => .ref id path (some (a + b, n))
              | v, none => .ref id path v)).andThen r
      | _ => .fail
    | _, _ => .fail
  | .fieldAddr t x f => bif !(tyOf tb t).agg || (tyOf tb t).cells.isEmpty then .fail else match (tyOf tb t).fields[f]? with
    | some (off, _) => match evalO e x with
      | .ptr id o => r (.ptr id (o + off))
      | .eptr id p i j => r (.eptr id p i (j + off))
      | .bptr q row j => r (.bptr q row (j + off))
      | _ => .fail
    | none => .fail
  | .field t x f => bif !(tyOf tb t).agg || (tyOf tb t).cells.isEmpty then .fail else match (tyOf tb t).fields[f]? with
    | some (off, u) => match evalO e x with
      | .agg cs =>
        let ys := (cs.drop off).take (tyOf tb u).cells.length
        bif Nat.beq ys.length (tyOf tb u).cells.length && Nat.ble 1 ys.length then r (mkV (tyOf tb u).agg ys) else .fail
      | _ => .fail
    | none => .fail
  | .indexAddr t x ix => match evalO e ix with
    | .int _ i => match evalO e x with
      | .bor _ q rows => bif !isSlT tb t q then .fail else .cond (decide (0 ≤ i) && decide (i < (rows.length : Int))) (r (.bptr q (rows.getD i.toNat q.dflt) 0)) .fail
      | .ref id path v => (navD id path).andThen fun ⟨q, rs⟩ => bif !isSlT tb t q then .fail else .cond (decide (0 ≤ i) && decide (i < lenR rs v)) (r (.eptr id path (offR v i) 0)) .fail
      | _ => .fail
    | _ => .fail
  | .index t x ix => match evalO e x, evalO e ix with
    | .str b, .int _ i => bif !isStrT tb t then .fail else .cond (decide (0 ≤ i) && decide (i < (b.size : Int))) (r (.int .u8 ((b.data.getD i.toNat 0).toNat : Int))) .fail
    | _, _ => .fail
  | .extract x n => match evalO e x with
    | .tup vs => match vs[n]? with
      | some v => r v
      | none => .fail
    | _ => .fail
  | .call k => evCall tb nb (k.args.toList.map (evalO e)) k
  | _ => .fail

abbrev Inl := Nat → List AV → St → D (AV × St)
/-- What is called, with which arguments. -/
def calleeOf (e : Env) : Op → Option (Nat × List AV)
  | .call k => match k.callee with
    | .value f => match evalO e f with
      | .func g cs => some (g, k.args.toList.map (evalO e) ++ cs)
      | _ => none
    | _ => none
  | _ => none
/-- One operation: its value, the state, what was touched (none: more than can be told). -/
def oneOp (c : Ctx) (inl : Inl) (s : St) (nb : Nat) (o : Oper) : D (AV × St × Option Log) :=
  let local_ (d : DH (AV × List Pl)) : D (AV × St × Option Log) := (d.go s.heap log0).andThen fun (v, h, l) => match v.2 with
    | [] => .ret (v.1, { s with heap := h }, some l)
    | ids => bif c.inl then .fail else .ret (v.1, purgeS ids { s with heap := h }, none)
  match calleeOf s.env o.op with
  | some (g, vs) => match conOf c.cons g with
    | some k => local_ (callCon nb k vs)
    | none => match ptrOf c.ptrs g with
      | some (tab, z) => match vs with
        | [.ptr id 0, .int .u8 l] => (pickP id l tab z).andThen fun v => .ret (v, s, some log0)
        | _ => .fail
      | none => (inl g vs s).andThen fun (v, s') => .ret (v, s', none)
  | none => local_ (opEval c.tb s.env nb o.type o.op)

/-! ### regions -/
def guardDst (ops : List Oper) (j : Nat) : Option Nat := (ops[j]?).bind (·.dst)
def putR (s : St) (d : Option Nat) (v : AV) : St :=
  match d with
  | some t => { s with env := putE s.env t v }
  | none => s
def opGuarded (c : Ctx) (inl : Inl) (ops : List Oper) (s : St) (nb : Nat) (o : Oper) : D (St × Option Log) :=
  let yes (s : St) : D (St × Option Log) := (oneOp c inl s nb o).andThen fun (v, s', l) => .ret (putR s' o.dst v, l)
  let no (s : St) : D (St × Option Log) := .ret (putR s o.dst (.tup []), some log0)
  match o.guard with
  | none => yes s
  | some (j, want) => match guardDst ops j with
    | none => .fail
    | some t => match getE s.env t with
      | .bool b => match want with
        | true => .cond b (yes { s with env := putE s.env t (.bool true) }) (no { s with env := putE s.env t (.bool false) })
        | false => .cond b (no { s with env := putE s.env t (.bool true) }) (yes { s with env := putE s.env t (.bool false) })
      | .tup [] => no s
      | _ => .fail
def sortedH : Heap → Bool
  | [] => true
  | [_] => true
  | (s, _) :: (t, o) :: r => Nat.blt s t && sortedH ((t, o) :: r)
def opsRun (c : Ctx) (inl : Inl) (all : List Oper) : List Oper → (nb : Nat) → St → List (Option Log) → D (St × List (Option Log))
  | [], _, s, ls => .ret (s, ls.reverse)
  | o :: os, nb, s, ls => (opGuarded c inl all s nb o).andThen fun (s', l) => bif l.isSome || sortedH s'.heap then opsRun c inl all os (nb + 16) s' (l :: ls) else .fail

/-! in any order -/
def opTmps (o : Oper) : List Nat := o.op.operands.toList.filterMap fun | .tmp t => some t | _ => none
def usesT (ops : List Oper) (o : Oper) : List Nat := opTmps o ++ (match o.guard with | some (j, _) => (guardDst ops j).toList | none => [])
def apartT (ops : List Oper) (a b : Oper) : Bool :=
  !meets a.dst.toList (b.dst.toList ++ usesT ops b) && !meets b.dst.toList (usesT ops a)
def apartL : Option Log → Option Log → Bool
  | some a, some b => !meets a.wr (b.rd ++ b.wr) && (!meets a.rd b.wr && (!meets a.wl b.ln && !meets a.ln b.wl))
  | _, _ => false
def pairsOk (bf : List Nat) (ops : List Oper) : (i : Nat) → List (Oper × Option Log) → Bool
  | _, [] => true
  | i, (a, l) :: rest => go i a l (i + 1) rest && pairsOk bf ops (i + 1) rest
  where
  go (i : Nat) (a : Oper) (l : Option Log) : Nat → List (Oper × Option Log) → Bool
    | _, [] => true
    | j, (b, m) :: r => (((bf[j]?).getD 0).testBit i || (apartT ops a b && apartL l m)) && go i a l (j + 1) r

/-- Bit i of entry j: operation i comes before j, by edges that always bind. -/
def bfOf (acc : List Nat) (o : Oper) : Nat := o.after.toList.foldl (fun s e => bif Region.binds .any e then s ||| 2 ^ e.on ||| (acc[e.on]?).getD 0 else s) 0
def bfGo : List Oper → List Nat → List Nat
  | [], acc => acc
  | o :: os, acc => bfGo os (acc ++ [bfOf acc o])
def edgesOk : Nat → List Oper → Bool
  | _, [] => true
  | i, o :: os => (o.after.toList.all fun e => !Region.binds .any e || Nat.blt e.on i) && edgesOk (i + 1) os
def regRun (c : Ctx) (inl : Inl) (ops : Array Oper) (draw : Bool) (s : St) : D St :=
  let os := ops.toList
  (opsRun c inl os os s.next { s with next := s.next + 16 * os.length } []).andThen fun (s', ls) =>
    bif !draw || (sortedH s.heap && edgesOk 0 os && pairsOk (bfGo os []) os 0 (os.zip ls)) then .ret s' else .fail

/-! ### the head of a loop: what is dead falls away, ids are counted anew -/
def objIds : Obj → List Nat
  | .box cs => cs.flatMap AV.idsS
  | .robox cs => cs.flatMap AV.idsS
  | _ => []
def reach (h : Heap) (c0 : Nat) : Nat → List Nat → List Nat → List Nat
  | 0, _, seen => seen
  | _, [], seen => seen
  | n + 1, id :: todo, seen => bif Nat.blt id c0 || memN seen id then reach h c0 n todo seen else
      match getO h id with
      | some o => reach h c0 n (todo ++ objIds o) (seen ++ [id])
      | none => reach h c0 n todo seen
def renId (m : List Nat) (c0 : Nat) : Nat → Nat → Option Nat
  | id, k => match m with
    | [] => none
    | x :: xs => bif Nat.beq x id then some k else renId xs c0 id (k + 1)
def AV.renS (m : List Nat) (c0 : Nat) : AV → AV
  | .ref id p v => bif Nat.blt id c0 then .ref id p v else match renId m c0 id c0 with
    | some j => .ref j p v
    | none => .undef
  | .ptr id o => bif Nat.blt id c0 then .ptr id o else match renId m c0 id c0 with
    | some j => .ptr j o
    | none => .undef
  | .eptr id p i k => bif Nat.blt id c0 then .eptr id p i k else match renId m c0 id c0 with
    | some j => .eptr j p i k
    | none => .undef
  | v => v
def AV.ren (m : List Nat) (c0 : Nat) : AV → AV
  | .agg cs => .agg (cs.map (AV.renS m c0))
  | .tup cs => .tup (cs.map (AV.renS m c0))
  | .func f cs => .func f (cs.map (AV.renS m c0))
  | v => v.renS m c0
def Obj.ren (m : List Nat) (c0 : Nat) : Obj → Obj
  | .box cs => .box (cs.map (AV.renS m c0))
  | .robox cs => .robox (cs.map (AV.renS m c0))
  | o => o
def renAll (h : Heap) (m : List Nat) (c0 : Nat) : List Nat → Nat → Heap
  | [], _ => []
  | id :: ids, k => match getO h id with
    | some o => (k, o.ren m c0) :: renAll h m c0 ids (k + 1)
    | none => renAll h m c0 ids (k + 1)
def lowO (h : Heap) (m : List Nat) (c0 : Nat) : Heap → Heap
  | [] => []
  | (t, o) :: r => bif Nat.blt t c0 then (t, o.ren m c0) :: lowO h m c0 r else lowO h m c0 r
def heapRoots (c0 : Nat) : Heap → List Nat
  | [] => []
  | (t, o) :: r => bif Nat.blt t c0 then objIds o ++ heapRoots c0 r else heapRoots c0 r
/-- Is it a token of a slice that is lent while a loop runs? -/
def isFz (t : Nat) : Bool := Nat.ble 900 t && Nat.blt t 1000
def forgetV : AV → AV
  | .bor (some t) r x => bif isFz t then .bor (some t) r x else .bor none r x
  | v => v
def widenS (v : AV) (k : Nat) : AV × Heap × Nat :=
  match v with
  | .nil (some r) => (.ref k [] none, [(k, .row r [])], k + 1)
  | v => (forgetV v, [], k)
def widenL : List AV → Nat → List AV × Heap × Nat
  | [], k => ([], [], k)
  | v :: vs, k =>
    let a := widenS v k
    let b := widenL vs a.2.2
    (a.1 :: b.1, a.2.1 ++ b.2.1, b.2.2)
def forgetA : AV → AV
  | .agg cs => .agg (cs.map forgetV)
  | v => forgetV v
def forgetE : Env → Env
  | [] => []
  | (t, v) :: r => (t, forgetA v) :: forgetE r
def widenH (c0 : Nat) : Heap → Nat → Heap × Heap × Nat
  | [], k => ([], [], k)
  | (t, .box cs) :: r, k => bif Nat.blt t c0 then
      let b := widenH c0 r k
      ((t, .box cs) :: b.1, b.2)
    else
      let a := widenL cs k
      let b := widenH c0 r a.2.2
      ((t, .box a.1) :: b.1, a.2.1 ++ b.2.1, b.2.2)
  | (t, o) :: r, k =>
    let b := widenH c0 r k
    ((t, o) :: b.1, b.2)
def AV.untup : AV → AV
  | .tup _ => .undef
  | v => v
def keepS : Env → List Nat → Env
  | _, [] => []
  | e, t :: ts => (t, (getE e t).untup) :: keepS e ts
def envIds : Env → List Nat
  | [] => []
  | (_, v) :: r => v.ids ++ envIds r
def renE (m : List Nat) (c0 : Nat) : Env → Env
  | [] => []
  | (t, v) :: r => (t, v.ren m c0) :: renE m c0 r
def normSt (c0 : Nat) (keep : List Nat) (s : St) : St :=
  let e1 := forgetE (keepS s.env keep)
  let h1 := widenH c0 s.heap s.next
  let hz := h1.1 ++ h1.2.1
  let m := reach hz c0 100000 (envIds e1 ++ heapRoots c0 hz) []
  { env := renE m c0 e1, heap := lowO hz m c0 hz ++ renAll hz m c0 m c0, next := c0 + m.length }

/-! ### what of a state is data, and what is its form -/
def ints (p : List (Int × Nat)) : List AV := p.map fun x => .int .i64 x.1
def leafS : AV → List AV
  | .int k n => [.int k n]
  | .bool b => [.bool b]
  | .str s => [.str s]
  | .bor _ r x => [.bor none r x]
  | .ref _ p none => ints p
  | .ref _ p (some (o, l)) => ints p ++ [.int .i64 o, .int .i64 l]
  | .eptr _ p i _ => ints p ++ [.int .i64 i]
  | _ => []
def leafV : AV → List AV
  | .agg cs => cs.flatMap leafS
  | .func _ cs => cs.flatMap leafS
  | v => leafS v
def leafO : Obj → List AV
  | .box cs => cs.flatMap leafS
  | .robox cs => cs.flatMap leafS
  | .row r x => [.bor none r x]
  | .part .. => []
def leafE : Env → List AV
  | [] => []
  | (_, v) :: r => leafV v ++ leafE r
def leafH : Heap → List AV
  | [] => []
  | (_, o) :: r => leafO o ++ leafH r
def leafSt (s : St) : List AV := leafE s.env ++ leafH s.heap

def fillP : List (Int × Nat) → List AV → Option (List (Int × Nat) × List AV)
  | [], vs => some ([], vs)
  | (_, j) :: p, v :: vs => match v with
    | .int .i64 i => match fillP p vs with
      | some (q, ws) => some ((i, j) :: q, ws)
      | none => none
    | _ => none
  | _, _ => none
/-- The form of the first, the data of the second. -/
def fillS : AV → List AV → Option (AV × List AV)
  | .int k _, .int k' n :: vs => bif IntKind.same k k' then some (.int k' n, vs) else none
  | .bool _, .bool b :: vs => some (.bool b, vs)
  | .str _, .str s :: vs => some (.str s, vs)
  | .bor t r _, .bor _ q x :: vs => bif q.same r then some (.bor t q x, vs) else none
  | .ref id p none, vs => match fillP p vs with
    | some (q, ws) => some (.ref id q none, ws)
    | none => none
  | .ref id p (some _), vs => match fillP p vs with
    | some (q, .int .i64 o :: .int .i64 l :: ws) => some (.ref id q (some (o, l)), ws)
    | _ => none
  | .eptr id p _ c, vs => match fillP p vs with
    | some (q, .int .i64 i :: ws) => some (.eptr id q i c, ws)
    | _ => none
  | .ptr id o, vs => some (.ptr id o, vs)
  | .nil r, vs => some (.nil r, vs)
  | .emp, vs => some (.emp, vs)
  | .undef, vs => some (.undef, vs)
  | _, _ => none
def fillL : List AV → List AV → Option (List AV × List AV)
  | [], vs => some ([], vs)
  | c :: cs, vs => match fillS c vs with
    | some (x, ws) => match fillL cs ws with
      | some (xs, us) => some (x :: xs, us)
      | none => none
    | none => none
def fillV : AV → List AV → Option (AV × List AV)
  | .agg cs, vs => (fillL cs vs).map fun x => (.agg x.1, x.2)
  | .func f cs, vs => (fillL cs vs).map fun x => (.func f x.1, x.2)
  | v, vs => fillS v vs
def fillO : Obj → List AV → Option (Obj × List AV)
  | .box cs, vs => (fillL cs vs).map fun x => (.box x.1, x.2)
  | .robox cs, vs => (fillL cs vs).map fun x => (.robox x.1, x.2)
  | .row r _, .bor _ q x :: vs => bif q.same r then some (.row q x, vs) else none
  | _, _ => none
def fillE : Env → List AV → Option (Env × List AV)
  | [], vs => some ([], vs)
  | (t, v) :: r, vs => match fillV v vs with
    | some (x, ws) => match fillE r ws with
      | some (xs, us) => some ((t, x) :: xs, us)
      | none => none
    | none => none
def fillH : Heap → List AV → Option (Heap × List AV)
  | [], vs => some ([], vs)
  | (t, v) :: r, vs => match fillO v vs with
    | some (x, ws) => match fillH r ws with
      | some (xs, us) => some ((t, x) :: xs, us)
      | none => none
    | none => none
def fillSt (s : St) (vs : List AV) : Option St :=
  match fillE s.env vs with
  | some (e, ws) => match fillH s.heap ws with
    | some (h, []) => some ⟨e, h, s.next⟩
    | _ => none
  | none => none

/-- Is it of the template's form? Then it is the template, filled with its own data. -/
def sameP : List (Int × Nat) → List (Int × Nat) → Bool
  | [], [] => true
  | (_, i) :: p, (_, j) :: q => Nat.beq i j && sameP p q
  | _, _ => false
def sameTok : Option Nat → Option Nat → Bool
  | none, none => true
  | some a, some b => Nat.beq a b
  | _, _ => false
def sameS : AV → AV → Bool
  | .int k _, .int k' _ => IntKind.same k k'
  | .bool _, .bool _ => true
  | .str _, .str _ => true
  | .bor t r _, .bor t' q _ => sameTok t t' && q.same r
  | .ref id p none, .ref id' p' none => Nat.beq id id' && sameP p p'
  | .ref id p (some _), .ref id' p' (some _) => Nat.beq id id' && sameP p p'
  | .eptr id p _ c, .eptr id' p' _ c' => Nat.beq id id' && (Nat.beq c c' && sameP p p')
  | .ptr id o, .ptr id' o' => Nat.beq id id' && Nat.beq o o'
  | .nil (some r), .nil (some q) => q.same r
  | .nil none, .nil none => true
  | .emp, .emp => true
  | .undef, v => (leafV v).isEmpty
  | _, _ => false
def sameL : List AV → List AV → Bool
  | [], [] => true
  | a :: as, b :: bs => sameS a b && sameL as bs
  | _, _ => false
def sameV : AV → AV → Bool
  | .agg cs, .agg ds => sameL cs ds
  | .func f cs, .func g ds => Nat.beq f g && sameL cs ds
  | a, b => sameS a b
def sameO : Obj → Obj → Bool
  | .box cs, .box ds => sameL cs ds
  | .robox cs, .robox ds => sameL cs ds
  | .row r _, .row q _ => q.same r
  | _, _ => false
def sameE : Env → Env → Bool
  | [], [] => true
  | (t, a) :: r, (u, b) :: q => Nat.beq t u && (sameV a b && sameE r q)
  | _, _ => false
def sameH : Heap → Heap → Bool
  | [], [] => true
  | (t, a) :: r, (u, b) :: q => Nat.beq t u && (sameO a b && sameH r q)
  | _, _ => false
def sameSt (a b : St) : Bool := Nat.beq a.next b.next && (sameE a.env b.env && sameH a.heap b.heap)

def leafC : (c : CT) → AV → Option c.den
  | .int k, .int k' n => bif IntKind.same k' k then some n else none
  | .bool, .bool b => some b
  | .str, .str s => some s
  | .sl r, .bor _ q x => if e : q.same r = true then some (castL e x) else none
  | _, _ => none
def tupOf : (cs : List CT) → List AV → Option (Tup cs)
  | [], [] => some ()
  | [c], [v] => leafC c v
  | c :: d :: cs, v :: vs => match leafC c v, tupOf (d :: cs) vs with
    | some x, some y => some (x, y)
    | _, _ => none
  | _, _ => none
def avC : (c : CT) → c.den → AV
  | .int k, n => .int k n
  | .bool, b => .bool b
  | .str, s => .str s
  | .nl _, _ => .emp
  | .sl r, x => .bor none r x
  | .vs r, x => .bor none r x
def avTup : (cs : List CT) → Tup cs → List AV
  | [], _ => []
  | [c], x => [avC c x]
  | c :: d :: cs, x => avC c x.1 :: avTup (d :: cs) x.2

/-! ### code -/
def firstReg : Code → Option Nat
  | .region id _ _ => some id
  | .seq a b => (firstReg a).orElse fun _ => firstReg b
  | .cond _ a b => (firstReg a).orElse fun _ => firstReg b
  | .block _ a => firstReg a
  | .loop a => firstReg a
  | .scope a => firstReg a
  | _ => none

def X.same : X → X → Bool
  | .exit a, .exit b => Nat.beq a b
  | .ret, .ret => true
  | .normal, .normal => true
  | _, _ => false
def toForm (c0 : Nat) (keep : List Nat) (tmpl : St) (cts : List CT) (s : St) : Option (Tup cts) :=
  let s' := normSt c0 keep s
  bif sameSt tmpl s' then tupOf cts (leafSt s') else none
def toExit (c0 : Nat) (x : X) (s : St) : (es : List ExitC) → Option (SumT es)
  | [] => none
  | [e] => bif X.same e.x x then toForm c0 e.keep e.tmpl e.cts s else none
  | e :: d :: es => bif X.same e.x x then
      match toForm c0 e.keep e.tmpl e.cts s with
      | some y => some (.inl y)
      | none => (toExit c0 x s (d :: es)).map .inr
    else (toExit c0 x s (d :: es)).map .inr
def ofForm (tmpl : St) (cts : List CT) (y : Tup cts) : D St := D.opt (fillSt tmpl (avTup cts y))
def ofExit : (es : List ExitC) → SumT es → D (X × St)
  | [], _ => .fail
  | [e], y => (ofForm e.tmpl e.cts y).andThen fun s => .ret (e.x, s)
  | e :: d :: es, y => .cases _ _ y (fun z => (ofForm e.tmpl e.cts z).andThen fun s => .ret (e.x, s)) (fun z => ofExit (d :: es) z)

/-- One round. -/
def stepD (c0 : Nat) (l : LoopCon) (body : St → D (X × St)) (p : Tup l.ins) : D (Tup l.ins ⊕ SumT l.exits) :=
  (ofForm l.tmpl l.ins p).andThen fun s => (body s).andThen fun (x, s') => match x with
    | .normal => match toForm c0 l.keep l.tmpl l.ins s' with
      | some y => .ret (.inl y)
      | none => (D.opt (toExit c0 .normal s' l.exits)).andThen fun y => .ret (.inr y)
    | x => (D.opt (toExit c0 x s' l.exits)).andThen fun y => .ret (.inr y)
def iterD {α β : Type} (step : α → D (α ⊕ β)) : Nat → α → Option β
  | 0, _ => none
  | n + 1, p => (step p).runK fun
    | .inl q => iterD step n q
    | .inr r => some r
/-- From here on a key is a join's. -/
def JB : Nat := 1000000
/-- A loop may go on in another form: the contracts behind tell how. -/
def loopRun (c0 dep : Nat) (id : Nat) : St → Loops → D (X × St)
  | _, [] => .fail
  | s, (k, l) :: ls => bif Nat.beq k id && (Nat.blt id JB && (Nat.beq l.c0 c0 && Nat.beq l.d dep)) then
      match toForm c0 l.keep l.tmpl l.ins s with
      | none => loopRun c0 dep id s ls
      | some p => .bind _ (l.fn p) fun r => (ofExit l.exits r).andThen fun (x, s') => match x with
        | .normal => loopRun c0 dep id s' ls
        | x => .ret (x, s')
    else loopRun c0 dep id s ls

/-! ### joins: what is behind a point of the code, told once -/
def joinRun (c0 dep id : Nat) (s : St) : Loops → Option (D (X × St))
  | [] => none
  | (k, l) :: ls => bif Nat.beq k id && (Nat.beq l.c0 c0 && Nat.beq l.d dep) then
      match toForm c0 l.keep l.tmpl l.ins s with
      | none => joinRun c0 dep id s ls
      | some p => some (.bind _ (l.fn p) fun r => ofExit l.exits r)
    else joinRun c0 dep id s ls
def joinId (a b : Code) : Option Nat := match firstReg a, firstReg b with
  | some _, some j => some (JB + j)
  | _, _ => none
def isJ (id : Nat) (a b : Code) : Bool := match joinId a b with
  | some j => Nat.beq j id
  | none => false
def hasJ : Loops → Bool
  | [] => false
  | (k, _) :: ls => !Nat.blt k JB || hasJ ls
def joinAt (c : Ctx) (c0 : Nat) (a b : Code) (s : St) : Option (D (X × St)) := bif hasJ c.loops then match joinId a b with
    | some j => joinRun c0 c.dep j s c.loops
    | none => none
  else none
def joinCode (id : Nat) : Code → Option Code
  | .seq a b => bif isJ id a b then some b else (joinCode id a).orElse fun _ => joinCode id b
  | .cond _ a b => (joinCode id a).orElse fun _ => joinCode id b
  | .block _ a => joinCode id a
  | .loop a => joinCode id a
  | .scope a => joinCode id a
  | _ => none
def stepJ (c0 : Nat) (l : LoopCon) (body : St → D (X × St)) (p : Tup l.ins) : D (Tup l.ins ⊕ SumT l.exits) :=
  (ofForm l.tmpl l.ins p).andThen fun s => (body s).andThen fun (x, s') => (D.opt (toExit c0 x s' l.exits)).andThen fun y => .ret (.inr y)

/-! ### a local slice that is lent while a loop runs -/
def fzOf : List (Nat × Nat × List Nat) → Nat → Option (Nat × List Nat)
  | [], _ => none
  | (k, t) :: r, id => bif Nat.beq k id then some t else fzOf r id
/-- The slots that hold what is lent already: from here on each has a token. -/
def lendE : Nat → List Nat → Env → Env
  | _, [], e => e
  | k, u :: us, e => lendE (k + 1) us (match getE e u with
    | .bor _ r x => putE e u (.bor (some k) r x)
    | _ => e)
/-- The cells of a value, each told anew. -/
def mapA (f : AV → AV) : AV → AV
  | .agg cs => .agg (cs.map f)
  | .func g cs => .func g (cs.map f)
  | .tup _ => .undef
  | v => f v
def mapE (f : AV → AV) : Env → Env
  | [] => []
  | (t, v) :: r => (t, mapA f v) :: mapE f r
def mapH (f : AV → AV) (kp : RT → Bool) : Heap → Heap
  | [] => []
  | (t, o) :: r => match o with
    | .box cs => (t, .box (cs.map f)) :: mapH f kp r
    | .row q x => bif kp q then (t, .row q x) :: mapH f kp r else delO (mapH f kp r) t
    | _ => delO (mapH f kp r) t
def noFz : AV → AV
  | .bor (some k) r x => bif isFz k then .bor none r x else .bor (some k) r x
  | v => v
/-- The local slice in slot t is lent. -/
def freezeSt (t : Nat) (us : List Nat) (s : St) : Option (St × (r : RT) × List r.den) :=
  match getE s.env t with
  | .ref id [] none => match getO s.heap id with
    | some (.row r x) => bif r.noVs && Nat.blt us.length 90 then some (⟨lendE 901 us (putE (mapE noFz s.env) t (.bor (some 900) r x)), mapH noFz (fun _ => true) (delO s.heap id), s.next⟩, ⟨r, x⟩) else none
    | _ => none
  | _ => none
/-- What a token stood for. -/
def tokV (e0 : Env) (nx : Nat) (us : List Nat) (k : Nat) : AV :=
  bif Nat.beq k 900 then .ref nx [] none else match us[k - 901]? with
    | some u => match getE e0 u with
      | .bor _ r x => .bor none r x
      | _ => .undef
    | none => .undef
def thawS (f : Nat → AV) : AV → AV
  | .bor (some k) _ _ => bif isFz k then f k else .undef
  | .bor none _ _ => .undef
  | .bptr _ _ _ => .undef
  | v => v
/-- Behind the loop: the slice is the frame's own again. -/
def thawSt (e0 : Env) (us : List Nat) (rx : (r : RT) × List r.den) (s : St) : St :=
  ⟨mapE (thawS (tokV e0 s.next us)) s.env, setO (mapH (thawS (tokV e0 s.next us)) RT.noVs s.heap) s.next (.row rx.1 rx.2), s.next + 1⟩

def codeRun (c : Ctx) (inl : Inl) (c0 : Nat) : Code → St → D (X × St)
  | .skip, s | .label _, s => .ret (.normal, s)
  | .region _ ops draw, s => (regRun c inl ops draw s).andThen fun s' => .ret (.normal, s')
  | .seq a b, s => (codeRun c inl c0 a s).andThen fun (x, s') => match x with
    | .normal => match joinAt c c0 a b s' with
      | some d => d
      | none => codeRun c inl c0 b s'
    | x => .ret (x, s')
  | .cond o a b, s => match o with
    | .tmp t => match getE s.env t with
      | .bool v => .cond v (codeRun c inl c0 a { s with env := putE s.env t (.bool true) }) (codeRun c inl c0 b { s with env := putE s.env t (.bool false) })
      | _ => .fail
    | .const (.bool v) => bif v then codeRun c inl c0 a s else codeRun c inl c0 b s
    | _ => .fail
  | .block id a, s => (codeRun c inl c0 a s).andThen fun (x, s') => match x with
    | .exit j => bif Nat.beq j id then .ret (.normal, s') else .ret (.exit j, s')
    | x => .ret (x, s')
  | .loop a, s => match fzOf c.fz ((firstReg a).getD 0) with
    | none => loopRun c0 c.dep ((firstReg a).getD 0) s c.loops
    | some tu => match freezeSt tu.1 tu.2 s with
      | none => .fail
      | some q => (loopRun c0 c.dep ((firstReg a).getD 0) q.1 c.loops).andThen fun y => .ret (y.1, thawSt s.env tu.2 q.2 y.2)
  | .exit id, s => .ret (.exit id, s)
  | .scope a, s => codeRun c inl c0 a s
  | .ret, s => .ret (.ret, s)
  | _, _ => .fail

/-! ### functions -/
def loopCode (id : Nat) : Code → Option Code
  | .seq a b => (loopCode id a).orElse fun _ => loopCode id b
  | .cond _ a b => (loopCode id a).orElse fun _ => loopCode id b
  | .block _ a => loopCode id a
  | .loop a => match firstReg a with
    | some j => bif Nat.beq j id then some a else loopCode id a
    | none => loopCode id a
  | .scope a => loopCode id a
  | _ => none
theorem iter_of {α β : Type} {step : α → D (α ⊕ β)} {l : Nat → α → Option β} (h0 : ∀ p, l 0 p = none)
    (hs : ∀ n p, l (n + 1) p = (step p).runK fun
      | .inl q => l n q
      | .inr r => some r) : ∀ n p, l n p = iterD step n p := by
  intro n
  induction n with
  | zero => exact h0
  | succ n ih => intro p; rw [hs]; simp only [iterD]; congr; funext x; cases x <;> simp [ih]

def getRes (tb : Tb) (e : Env) : List ResultVar → DH (List AV)
  | [] => .ret []
  | .tmp t :: rs => (getRes tb e rs).andThen fun vs => .ret ((getE e t).untup :: vs)
  | .cell a t :: rs => (loadC (tyOf tb t).cells.length (getE e a)).andThen fun cs =>
      bif Nat.beq cs.length (tyOf tb t).cells.length && Nat.ble 1 cs.length then
        (getRes tb e rs).andThen fun vs => .ret (mkV (tyOf tb t).agg cs :: vs)
      else .fail

def argsEnv : Nat → List AV → Env
  | _, [] => []
  | i, v :: vs => (i, v) :: argsEnv (i + 1) vs

/-- A callee without a contract: walked in the same heap. -/
def inlRun (fs : Nat → Option Func) (c : Nat → Ctx) : Nat → Inl
  | 0 => fun _ _ _ => .fail
  | d + 1 => fun f vs s => match fs f with
    | none => .fail
    | some fn => match fn.body with
      | none => .fail
      | some b => (codeRun { c f with dep := d } (inlRun fs c d) s.next b { s with env := argsEnv 0 vs }).andThen fun (x, s') => match x with
        | .exit _ => .fail
        | _ => ((getRes (c f).tb s'.env fn.results.toList).go s'.heap log0).andThen fun (rs, _, _) => .ret (oneOrTup rs, { s' with env := s.env })

/-- The round of a loop of function f, that is met at depth d of inlined calls. -/
def roundOf (fs : Nat → Option Func) (c : Nat → Ctx) (d f id : Nat) (il : Bool) (l : LoopCon) : Tup l.ins → D (Tup l.ins ⊕ SumT l.exits) :=
  let cc : Nat → Ctx := fun g => { c g with inl := true }
  bif Nat.blt id JB then stepD l.c0 l fun s => codeRun { (bif il then cc f else c f) with dep := d } (inlRun fs cc d) l.c0 (((fs f).bind (·.body)).bind (loopCode id) |>.getD .skip) s
  else stepJ l.c0 l fun s => codeRun { (bif il then cc f else c f) with dep := d } (inlRun fs cc d) l.c0 (((fs f).bind (·.body)).bind (joinCode id) |>.getD .skip) s
/-- The parameters at the entry: the values, and the heap. Cells are counted through; boxes have ids from 500 on. -/
def entry : List (Mode × Bool × List CT) → (j : Nat) → (bs os us : List AV) → (oh uh : Heap) → List AV × Heap
  | [], _, _, _, _, _, _ => ([], [])
  | (m, a, cs) :: ms, j, bs, os, us, oh, uh =>
    let n := cs.length
    let r := entry ms (j + 1) (bs.drop n) (os.drop n) (us.drop n) oh uh
    match m with
    | .B => (mkV a (bs.take n) :: r.1, r.2)
    | .I => (mkV a (os.take n) :: r.1, (oh.filter fun p => memN ((os.take n).flatMap AV.idsS) p.1) ++ r.2)
    | .M => (mkV a (us.take n) :: r.1, (uh.filter fun p => memN ((us.take n).flatMap AV.idsS) p.1) ++ r.2)
    | .Q => (.ptr (500 + j) 0 :: r.1, (500 + j, .robox (bs.take n)) :: r.2)
    | .P ws =>
      let cells := (ws.zip ((bs.take n).zip (us.take n))).map fun x => bif x.1 then x.2.2 else x.2.1
      (.ptr (500 + j) 0 :: r.1, (500 + j, .box cells) :: ((uh.filter fun p => memN (cells.flatMap AV.idsS) p.1) ++ r.2))
/-- What is handed back beside the results. -/
def keptK : List Bool → List AV → List AV → Bool
  | [], [], [] => true
  | w :: ws, x :: xs, y :: ys => (w || (match x, y with | .bor (some a) _ _, .bor (some b) _ _ => Nat.beq a b | _, _ => false)) && keptK ws xs ys
  | _, _, _ => false
def isRef : AV → Bool
  | .ref .. => true
  | _ => false
def outsD : Modes → (j : Nat) → (bs os : List AV) → DH (List AV)
  | [], _, _, _ => .ret []
  | (m, _, cs) :: ms, j, bs, os =>
    let n := cs.length
    (outsD ms (j + 1) (bs.drop n) (os.drop n)).andThen fun r => match m with
      | .I => .ret ((os.take n).filter isRef ++ r)
      | .P ws => (getD (500 + j)).andThen fun o => match o with
        | some (.box xs) => bif keptK ws xs (bs.take n) then .ret (((ws.zip xs).flatMap fun x => bif x.1 then [x.2] else []) ++ r) else .fail
        | _ => .fail
      | _ => .ret r

def sortH : Heap → Heap
  | [] => []
  | (t, o) :: r => setO (sortH r) t o
/-- A function's body from the given arguments on, to what it hands back. -/
def bodyRun (fs : Nat → Option Func) (c : Nat → Ctx) (d f : Nat) (k : Con) (bs os : List AV) (avs : List AV) (h : Heap) : Option (Tup k.outs) :=
  match fs f with
  | none => none
  | some fn => match fn.body with
    | none => none
    | some b =>
      ((codeRun { c f with dep := d } (inlRun fs (fun g => { c g with inl := true }) d) 1000 b ⟨argsEnv 0 avs, h, 1000 + k.ins.length⟩).andThen fun (x, s') => match x with
        | .exit _ => D.fail
        | _ => (((getRes (c f).tb s'.env fn.results.toList).andThen fun rs => (outsD k.modes 0 bs os).andThen fun ys =>
            bif shapesV k.res rs && k.outs.all CT.noVs then inTupP k.outs (rs.flatMap AV.flat ++ ys) else .fail).go s'.heap log0).andThen fun (y, _, _) => .ret y).run
def funRun (fs : Nat → Option Func) (c : Nat → Ctx) (d : Nat) (f : Nat) (k : Con) (x : Tup k.ins) : Option (Tup k.outs) :=
  let bs := borTup 0 k.ins x
  let os := newTup 0 k.ins x
  let us := newTup 1000 k.ins x
  let en := entry k.modes 0 bs os.1 us.1 os.2 us.2
  bodyRun fs c d f k bs os.1 en.1 (sortH en.2)


/-! ### a function with parameters of all modes -/
def mixCell (j : Nat) (k : CK) (c : CT) (x : c.den) : AV × Heap :=
  match k with
  | .B => (borCell j c x, [])
  | .O => newCell j c x
  | .U => newCell (1000 + j) c x
def mixTup : Nat → List CK → (cs : List CT) → Tup cs → List AV × Heap
  | _, _, [], _ => ([], [])
  | j, k :: _, [c], x => ([(mixCell j k c x).1], (mixCell j k c x).2)
  | j, k :: ks, c :: d :: cs, x =>
    let a := mixCell j k c x.1
    let b := mixTup (j + 1) ks (d :: cs) x.2
    (a.1 :: b.1, a.2 ++ b.2)
  | _, [], _ :: _, _ => ([], [])
def entryG : Modes → (j : Nat) → List AV → List AV × Heap
  | [], _, _ => ([], [])
  | (m, a, cs) :: ms, j, xs =>
    let r := entryG ms (j + 1) (xs.drop cs.length)
    match m with
    | .Q => (.ptr (500 + j) 0 :: r.1, (500 + j, .robox (xs.take cs.length)) :: r.2)
    | .P _ => (.ptr (500 + j) 0 :: r.1, (500 + j, .box (xs.take cs.length)) :: r.2)
    | _ => (mkV a (xs.take cs.length) :: r.1, r.2)
def outsG : Modes → (j : Nat) → List AV → DH (List AV)
  | [], _, _ => .ret []
  | (m, _, cs) :: ms, j, xs => (outsG ms (j + 1) (xs.drop cs.length)).andThen fun r => match m with
    | .I => .ret (slOf cs (xs.take cs.length) ++ r)
    | .P ws => (getD (500 + j)).andThen fun o => match o with
      | some (.box ys) => bif keptK ws ys (xs.take cs.length) then .ret (selT ws ys ++ r) else .fail
      | _ => .fail
    | _ => .ret r
def boxesG : Modes → Nat → List Nat
  | [], _ => []
  | (m, _, _) :: ms, j => match m with
    | .P _ => (500 + j) :: boxesG ms (j + 1)
    | _ => boxesG ms (j + 1)
def bodyG (fs : Nat → Option Func) (c : Nat → Ctx) (d f : Nat) (k : Con) (xs avs : List AV) (h : Heap) : Option (Tup k.outs) :=
  match fs f with
  | none => none
  | some fn => match fn.body with
    | none => none
    | some b =>
      ((codeRun { c f with dep := d } (inlRun fs (fun g => { c g with inl := true }) d) 1000 b ⟨argsEnv 0 avs, h, 1000 + k.ins.length⟩).andThen fun (x, s') => match x with
        | .exit _ => D.fail
        | _ => (((getRes (c f).tb s'.env fn.results.toList).andThen fun rs => (outsG k.modes 0 xs).andThen fun ys =>
            bif shapesV k.res rs && k.outs.all CT.noVs then (inTupP k.outs (rs.flatMap AV.flat ++ ys)).andThen fun y => (alive (boxesG k.modes 0)).andThen fun _ => .ret y else .fail).go s'.heap log0).andThen fun (y, _, _) => .ret y).run
def funG (fs : Nat → Option Func) (c : Nat → Ctx) (d : Nat) (f : Nat) (k : Con) (x : Tup k.ins) : Option (Tup k.outs) :=
  let mx := mixTup 0 (ksOf k.modes) k.ins x
  let en := entryG k.modes 0 mx.1
  bodyG fs c d f k mx.1 en.1 (sortH (en.2 ++ mx.2))

end Go.Abs

namespace Go.Abs
open Go.RowKit
set_option linter.unusedSimpArgs false
set_option linter.unusedVariables false

/-! ### where a slice lies -/
inductive Loc where
  | nil
  | emp (a : Option Addr) (cap : Nat)
  | at (b off cap sz : Nat)
def Loc.val (n : Nat) : Loc → Value
  | .nil => .slice none 0 0
  | .emp a cap => .slice a 0 cap
  | .at b off cap _ => .slice (some ⟨b, off, none⟩) n cap
def Loc.bl : Loc → List Nat
  | .at b _ _ _ => [b]
  | _ => []
inductive L where
  | leaf
  | sl (loc : Loc) (kids : List (List L))

mutual
def L.bl : L → List Nat
  | .leaf => []
  | .sl loc kids => loc.bl ++ Lss.bl kids
def Ls.bl : List L → List Nat
  | [] => []
  | l :: ls => l.bl ++ Ls.bl ls
def Lss.bl : List (List L) → List Nat
  | [] => []
  | l :: ls => Ls.bl l ++ Lss.bl ls
end


def LocOk (w : World) (own : Bool) (sz : Nat) (n : Nat) : Loc → Prop
  | .nil => n = 0
  | .emp a cap => n = 0 ∧ (own = true → cap = 0) ∧ (a = none → cap = 0)
  | .at b off cap s => s = sz ∧ n ≤ cap ∧ (own = true → ∃ vals e, w.heap[b]? = some (.cells vals e (0, 0)) ∧ off + cap * sz ≤ vals.size)

/-- What is said of a slice that is only lent. -/
abbrev Fz := (r : RT) → List r.den → Value → Prop
def F0 : Fz := fun _ _ _ => False
mutual
def CellV (F : Fz) (w : World) (own : Bool) : (c : CT) → c.den → L → Value → Prop
  | .int k, n, l, v => l = .leaf ∧ v = .int k n
  | .bool, b, l, v => l = .leaf ∧ v = .bool b
  | .str, s, l, v => l = .leaf ∧ v = .string s
  | .nl _, _, l, v => l = .leaf ∧ ∃ a, v = .slice a 0 0
  | .vs r, rows, l, v => l = .leaf ∧ F r rows v ∧ ∃ a n c, v = .slice a n c
  | .sl r, rows, l, v => ∃ loc kids, l = .sl loc kids ∧ v = loc.val (List.length rows) ∧ kids.length = List.length rows ∧ LocOk w own r.size (List.length rows) loc ∧
      ∀ b off cap sz, loc = .at b off cap sz → ∀ i, i < List.length rows → RowV F w own r (List.getD rows i r.dflt) (kids.getD i []) b (off + i * sz)
def RowV (F : Fz) (w : World) (own : Bool) : (r : RT) → r.den → List L → (b o : Nat) → Prop
  | .one c, d, ls, b, o => ∃ l v, ls = [l] ∧ w.cell? ⟨b, o, none⟩ = some v ∧ CellV F w own c d l v
  | .cons c r, d, ls, b, o => ∃ l ls', ls = l :: ls' ∧ (∃ v, w.cell? ⟨b, o, none⟩ = some v ∧ CellV F w own c d.1 l v) ∧ RowV F w own r d.2 ls' b (o + 1)
end

/-! ### what stays while other blocks turn -/
theorem cell_same {w w' : World} {b o : Nat} (h : w'.heap[b]? = w.heap[b]?) : w'.cell? ⟨b, o, none⟩ = w.cell? ⟨b, o, none⟩ := World.cell?_of_block h

theorem Lss.bl_getD : ∀ (kids : List (List L)) (i : Nat) (b : Nat), b ∈ Ls.bl (kids.getD i []) → b ∈ Lss.bl kids
  | [], i, b, h => by simp [Ls.bl] at h
  | k :: ks, 0, b, h => by simp only [Lss.bl, List.mem_append]; exact .inl (by simpa using h)
  | k :: ks, i + 1, b, h => by simp only [Lss.bl, List.mem_append]; exact .inr (Lss.bl_getD ks i b (by simpa using h))

theorem LocOk.keep {w w' : World} {own : Bool} {sz n : Nat} {loc : Loc} (h : LocOk w own sz n loc) (hb : ∀ b ∈ loc.bl, w'.heap[b]? = w.heap[b]?) : LocOk w' own sz n loc := by
  cases loc with
  | nil => exact h
  | emp a cap => exact h
  | «at» b off cap s =>
    obtain ⟨h1, h2, h3⟩ := h
    refine ⟨h1, h2, fun ho => ?_⟩
    obtain ⟨vals, e, h4, h5⟩ := h3 ho
    exact ⟨vals, e, by rw [hb b (by simp [Loc.bl])]; exact h4, h5⟩

mutual
theorem CellV.keep {F : Fz} {w w' : World} {own : Bool} : ∀ (c : CT) (d : c.den) (l : L) (v : Value), CellV F w own c d l v → (∀ b ∈ l.bl, w'.heap[b]? = w.heap[b]?) → CellV F w' own c d l v
  | .int k, n, l, v, h, _ => h
  | .bool, n, l, v, h, _ => h
  | .str, n, l, v, h, _ => h
  | .nl _, n, l, v, h, _ => h
  | .vs _, n, l, v, h, _ => h
  | .sl r, rows, l, v, h, hb => by
    obtain ⟨loc, kids, rfl, hv, hk, hl, hr⟩ := h
    refine ⟨loc, kids, rfl, hv, hk, hl.keep fun b hm => hb b (by simp only [L.bl, List.mem_append]; exact .inl hm), fun b off cap sz e i hi => ?_⟩
    subst e
    exact RowV.keep r _ _ b _ (hr b off cap sz rfl i hi) (hb b (by simp [L.bl, Loc.bl])) fun b' hm => hb b' (by simp only [L.bl, List.mem_append]; exact .inr (Lss.bl_getD kids i b' hm))
theorem RowV.keep {F : Fz} {w w' : World} {own : Bool} : ∀ (r : RT) (d : r.den) (ls : List L) (b o : Nat), RowV F w own r d ls b o → w'.heap[b]? = w.heap[b]? → (∀ b ∈ Ls.bl ls, w'.heap[b]? = w.heap[b]?) → RowV F w' own r d ls b o
  | .one c, d, ls, b, o, h, h0, hb => by
    obtain ⟨l, v, rfl, hc, hv⟩ := h
    exact ⟨l, v, rfl, by rw [cell_same h0]; exact hc, CellV.keep c d l v hv fun b' hm => hb b' (by simp [Ls.bl]; exact hm)⟩
  | .cons c r, d, ls, b, o, h, h0, hb => by
    obtain ⟨l, ls', rfl, ⟨v, hc, hv⟩, hr⟩ := h
    exact ⟨l, ls', rfl, ⟨v, by rw [cell_same h0]; exact hc, CellV.keep c d.1 l v hv fun b' hm => hb b' (by simp only [Ls.bl, List.mem_append]; exact .inl hm)⟩,
      RowV.keep r d.2 ls' b (o + 1) hr h0 fun b' hm => hb b' (by simp only [Ls.bl, List.mem_append]; exact .inr hm)⟩
end

/-! ### an owned tree reads as a borrowed one -/
mutual
theorem CellV.lend {F : Fz} {w : World} : ∀ (c : CT) (d : c.den) (l : L) (v : Value), CellV F w true c d l v → CellV F w false c d l v
  | .int k, n, l, v, h => h
  | .bool, n, l, v, h => h
  | .str, n, l, v, h => h
  | .nl _, n, l, v, h => h
  | .vs _, n, l, v, h => h
  | .sl r, rows, l, v, h => by
    obtain ⟨loc, kids, rfl, hv, hk, hl, hr⟩ := h
    refine ⟨loc, kids, rfl, hv, hk, ?_, fun b off cap sz e i hi => RowV.lend r _ _ b _ (hr b off cap sz e i hi)⟩
    cases loc with
    | nil => exact hl
    | emp a cap => exact ⟨hl.1, fun h => (by cases h), hl.2.2⟩
    | «at» b off cap s => exact ⟨hl.1, hl.2.1, fun h => by cases h⟩
theorem RowV.lend {F : Fz} {w : World} : ∀ (r : RT) (d : r.den) (ls : List L) (b o : Nat), RowV F w true r d ls b o → RowV F w false r d ls b o
  | .one c, d, ls, b, o, h => by
    obtain ⟨l, v, rfl, hc, hv⟩ := h
    exact ⟨l, v, rfl, hc, CellV.lend c d l v hv⟩
  | .cons c r, d, ls, b, o, h => by
    obtain ⟨l, ls', rfl, ⟨v, hc, hv⟩, hr⟩ := h
    exact ⟨l, ls', rfl, ⟨v, hc, CellV.lend c d.1 l v hv⟩, RowV.lend r d.2 ls' b (o + 1) hr⟩
end

/-! ### what is said of lent slices -/
mutual
theorem CellV.mono {F F' : Fz} {w : World} {own : Bool} (hF : ∀ r x v, F r x v → F' r x v) : ∀ (c : CT) (d : c.den) (l : L) (v : Value), CellV F w own c d l v → CellV F' w own c d l v
  | .int k, n, l, v, h => h
  | .bool, n, l, v, h => h
  | .str, n, l, v, h => h
  | .nl _, n, l, v, h => h
  | .vs r, n, l, v, h => ⟨h.1, hF r n v h.2.1, h.2.2⟩
  | .sl r, rows, l, v, h => by
    obtain ⟨loc, kids, rfl, hv, hk, hl, hr⟩ := h
    exact ⟨loc, kids, rfl, hv, hk, hl, fun b off cap sz e i hi => RowV.mono hF r _ _ b _ (hr b off cap sz e i hi)⟩
theorem RowV.mono {F F' : Fz} {w : World} {own : Bool} (hF : ∀ r x v, F r x v → F' r x v) : ∀ (r : RT) (d : r.den) (ls : List L) (b o : Nat), RowV F w own r d ls b o → RowV F' w own r d ls b o
  | .one c, d, ls, b, o, h => by
    obtain ⟨l, v, rfl, hc, hv⟩ := h
    exact ⟨l, v, rfl, hc, CellV.mono hF c d l v hv⟩
  | .cons c r, d, ls, b, o, h => by
    obtain ⟨l, ls', rfl, ⟨v, hc, hv⟩, hr⟩ := h
    exact ⟨l, ls', rfl, ⟨v, hc, CellV.mono hF c d.1 l v hv⟩, RowV.mono hF r d.2 ls' b (o + 1) hr⟩
end
theorem CellV.of0 {F : Fz} {w : World} {own : Bool} {c : CT} {d : c.den} {l : L} {v : Value} (h : CellV F0 w own c d l v) : CellV F w own c d l v := CellV.mono (fun _ _ _ h => h.elim) c d l v h
theorem RowV.of0 {F : Fz} {w : World} {own : Bool} {r : RT} {d : r.den} {ls : List L} {b o : Nat} (h : RowV F0 w own r d ls b o) : RowV F w own r d ls b o := RowV.mono (fun _ _ _ h => h.elim) r d ls b o h
mutual
theorem CellV.noVs {F F' : Fz} {w : World} {own : Bool} : ∀ (c : CT) (d : c.den) (l : L) (v : Value), c.noVs = true → CellV F w own c d l v → CellV F' w own c d l v
  | .int k, n, l, v, _, h => h
  | .bool, n, l, v, _, h => h
  | .str, n, l, v, _, h => h
  | .nl _, n, l, v, _, h => h
  | .vs r, n, l, v, hn, h => by simp [CT.noVs] at hn
  | .sl r, rows, l, v, hn, h => by
    obtain ⟨loc, kids, rfl, hv, hk, hl, hr⟩ := h
    exact ⟨loc, kids, rfl, hv, hk, hl, fun b off cap sz e i hi => RowV.noVs r _ _ b _ (by simpa [CT.noVs] using hn) (hr b off cap sz e i hi)⟩
theorem RowV.noVs {F F' : Fz} {w : World} {own : Bool} : ∀ (r : RT) (d : r.den) (ls : List L) (b o : Nat), r.noVs = true → RowV F w own r d ls b o → RowV F' w own r d ls b o
  | .one c, d, ls, b, o, hn, h => by
    obtain ⟨l, v, rfl, hc, hv⟩ := h
    exact ⟨l, v, rfl, hc, CellV.noVs c d l v (by simpa [RT.noVs] using hn) hv⟩
  | .cons c r, d, ls, b, o, hn, h => by
    have hn' : c.noVs = true ∧ r.noVs = true := by simpa [RT.noVs] using hn
    obtain ⟨l, ls', rfl, ⟨v, hc, hv⟩, hr⟩ := h
    exact ⟨l, ls', rfl, ⟨v, hc, CellV.noVs c d.1 l v hn'.1 hv⟩, RowV.noVs r d.2 ls' b (o + 1) hn'.2 hr⟩
end

/-! ### ghosts -/
inductive GO where
  | box (b : Nat)
  | row (l : L)
def GO.bl : GO → List Nat
  | .box b => [b]
  | .row l => l.bl
abbrev Gh := Nat → Option GO

/-- The slice at a path: where it lies, how long it is. -/
def L.at (l : L) : List (Int × Nat) → Option (Loc × Nat)
  | [] => match l with
    | .sl loc kids => some (loc, kids.length)
    | .leaf => none
  | (i, j) :: p => match l with
    | .sl _ kids => match kids[i.toNat]? with
      | some ls => match ls[j]? with
        | some k => if 0 ≤ i then k.at p else none
        | none => none
      | none => none
    | .leaf => none
def Gh.at (G : Gh) (id : Nat) (p : List (Int × Nat)) : Option (Loc × Nat) :=
  match G id with
  | some (.row l) => l.at p
  | _ => none

/-- A view of a slice as a value. -/
def viewVal (loc : Loc) (n : Nat) (o l : Int) (v : Value) : Prop :=
  0 ≤ o ∧ 0 ≤ l ∧ o + l ≤ n ∧
  match loc with
  | .nil => v = .slice none 0 0
  | .emp a cap => v = .slice a 0 cap
  | .at b off cap sz => ∃ c', (v = .slice (some ⟨b, off + o.toNat * sz, none⟩) l.toNat c' ∧ o.toNat + c' = cap) ∨ (l = 0 ∧ c' = 0 ∧ ∃ a, v = .slice (some a) 0 0)

/-- What a frame leans on: blocks that nobody turns while it runs. -/
structure Base where
  P : Program
  w0 : World
  mine : List Nat           -- blocks from before that may be turned
  tok : Nat → Value
def Base.safe (B : Base) (b : Nat) : Prop := b < B.w0.heap.size ∧ b ∉ B.mine
/-- A slice that is lent to the frame. -/
def Base.fz (B : Base) : Fz := fun r rows v => ∃ l, CellV F0 B.w0 false (.sl r) rows l v ∧ ∀ b ∈ l.bl, B.safe b

def VRelS (B : Base) (G : Gh) : AV → Value → Prop
  | .undef, _ => True
  | .int k n, v => v = .int k n
  | .bool b, v => v = .bool b
  | .str s, v => v = .string s
  | .nil _, v => v = .slice none 0 0
  | .emp, v => ∃ a, v = .slice a 0 0
  | .bor t r rows, v => (∃ l, CellV F0 B.w0 false (.sl r) rows l v ∧ ∀ b ∈ l.bl, B.safe b) ∧ ∀ i, t = some i → v = B.tok i ∧ (1000 ≤ i → ∃ a n c, v = .slice (some a) n c)
  | .ref id p none, v => ∃ loc n, G.at id p = some (loc, n) ∧ v = loc.val n
  | .ref id p (some (o, l)), v => ∃ loc n, G.at id p = some (loc, n) ∧ viewVal loc n o l v
  | .ptr id off, v => ∃ b, G id = some (.box b) ∧ v = .pointer (some ⟨b, off, none⟩)
  | .eptr id p i c, v => ∃ b off cap sz n, G.at id p = some (.at b off cap sz, n) ∧ 0 ≤ i ∧ i < n ∧ v = .pointer (some ⟨b, off + i.toNat * sz + c, none⟩)
  | .bptr r row c, v => ∃ b o ls, RowV F0 B.w0 false r row ls b o ∧ B.safe b ∧ (∀ b ∈ Ls.bl ls, B.safe b) ∧ v = .pointer (some ⟨b, o + c, none⟩)
  | _, _ => False
def VRelL (B : Base) (G : Gh) : List AV → List Value → Prop
  | [], [] => True
  | a :: as, v :: vs => VRelS B G a v ∧ VRelL B G as vs
  | _, _ => False
def VRelA (B : Base) (G : Gh) : AV → Value → Prop
  | .agg cs, v => ∃ vs : List Value, v = .agg vs.toArray ∧ VRelL B G cs vs
  | .func f cs, v => ∃ vs : List Value, v = .func (.func f) #[] vs.toArray ∧ VRelL B G cs vs
  | a, v => VRelS B G a v
def VRelAs (B : Base) (G : Gh) : List AV → List Value → Prop
  | [], [] => True
  | a :: as, v :: vs => VRelA B G a v ∧ VRelAs B G as vs
  | _, _ => False
def VRel (B : Base) (G : Gh) : AV → Value → Prop
  | .tup cs, v => ∃ vs : List Value, v = .tuple vs.toArray ∧ VRelAs B G cs vs
  | a, v => VRelA B G a v

/-- A row's cells but for those of some columns, wherever the row lies. -/
def RowK (F : Fz) (w : World) (cols : List Nat) : (j : Nat) → (r : RT) → r.den → List L → Prop
  | j, .one c, d, ls => ∃ l, ls = [l] ∧ (memN cols j = false → ∃ v, CellV F w true c d l v)
  | j, .cons c r, d, ls => ∃ l ls', ls = l :: ls' ∧ (memN cols j = false → ∃ v, CellV F w true c d.1 l v) ∧ RowK F w cols (j + 1) r d.2 ls'
/-- What is left of a slice's rows. -/
structure PartR (F : Fz) (w : World) (root : Bool) (cols : List Nat) (r : RT) (rows : List r.den) (lo hi : Int) (loc : Loc) (kids : List (List L)) : Prop where
  len : kids.length = rows.length
  top : root = true → LocOk w true r.size rows.length loc ∧ cols = [] ∧ ∀ b off cap sz, loc = .at b off cap sz → ∀ i : Nat, i < rows.length → lo ≤ (i : Int) → (i : Int) < hi → RowV F w true r (rows.getD i r.dflt) (kids.getD i []) b (off + i * sz)
  rows : ∀ i : Nat, i < rows.length → lo ≤ (i : Int) → (i : Int) < hi → RowK F w cols 0 r (rows.getD i r.dflt) (kids.getD i [])
def Ls.blX (cols : List Nat) : Nat → List L → List Nat
  | _, [] => []
  | j, l :: ls => (bif memN cols j then [] else l.bl) ++ Ls.blX cols (j + 1) ls
def Lss.blP (cols : List Nat) (lo hi : Int) : Nat → List (List L) → List Nat
  | _, [] => []
  | i, k :: ks => (bif decide (lo ≤ (i : Int)) && decide ((i : Int) < hi) then Ls.blX cols 0 k else []) ++ Lss.blP cols lo hi (i + 1) ks
def L.blP (root : Bool) (cols : List Nat) (lo hi : Int) : L → List Nat
  | .leaf => []
  | .sl loc kids => (bif root then loc.bl else []) ++ Lss.blP cols lo hi 0 kids
/-- The blocks that an object has. -/
def obl : Obj → GO → List Nat
  | .part root cols _ _ lo hi, .row l => l.blP root cols lo hi
  | _, go => go.bl

/-- An object and its place in memory. -/
def ORel (B : Base) (G : Gh) (w : World) (id : Nat) : Obj → Prop
  | .box cs => ∃ b vals e, G id = some (.box b) ∧ w.heap[b]? = some (.cells vals e (0, 0)) ∧ VRelL B G cs vals.toList
  | .robox cs => ∃ b vs, G id = some (.box b) ∧ B.safe b ∧ (∀ j v, vs[j]? = some v → w.cell? ⟨b, j, none⟩ = some v) ∧ VRelL B G cs vs
  | .row r rows => ∃ l v, G id = some (.row l) ∧ CellV B.fz w true (.sl r) rows l v
  | .part root cols r rows lo hi => ∃ loc kids, G id = some (.row (.sl loc kids)) ∧ PartR B.fz w root cols r rows lo hi loc kids
def ownd : Obj → Bool
  | .robox _ => false
  | _ => true

structure Sim (B : Base) (G : Gh) (h : Heap) (w : World) : Prop where
  obj : ∀ id o, getO h id = some o → ORel B G w id o
  nodup : ∀ id o go, getO h id = some o → ownd o = true → G id = some go → (obl o go).Nodup
  mine : ∀ id o go, getO h id = some o → ownd o = true → G id = some go → ∀ b ∈ obl o go, b < w.heap.size ∧ ¬ B.safe b
  apart : ∀ i j o o' go go', i ≠ j → getO h i = some o → getO h j = some o' → ownd o = true → ownd o' = true → G i = some go → G j = some go' → ∀ b ∈ obl o go, b ∉ obl o' go'
  os : w.os = B.w0.os
  tape : w.tape = B.w0.tape
  output : w.output = B.w0.output
  size : B.w0.heap.size ≤ w.heap.size
  safe : ∀ b, B.safe b → w.heap[b]? = B.w0.heap[b]?

end Go.Abs

namespace Go.Abs
open Go.RowKit
set_option linter.unusedSimpArgs false
set_option linter.unusedVariables false

/-! ### lookups -/
theorem beq_iff (a b : Nat) : Nat.beq a b = true ↔ a = b := ⟨Nat.eq_of_beq_eq_true, fun h => by subst h; exact Nat.beq_refl a⟩
theorem beq_false {a b : Nat} (h : a ≠ b) : Nat.beq a b = false := by
  cases hb : Nat.beq a b with
  | false => rfl
  | true => exact absurd ((beq_iff a b).1 hb) h
theorem getE_putE (e : Env) (t t' : Nat) (v : AV) : getE (putE e t v) t' = if t = t' then v else getE e t' := by
  induction e with
  | nil =>
    simp only [putE, getE]
    by_cases h : t = t'
    · subst h; simp
    · simp [beq_false h, h]
  | cons p r ih =>
    obtain ⟨s, x⟩ := p
    simp only [putE]
    by_cases hs : s = t
    · subst hs
      simp only [Nat.beq_refl, cond_true, getE]
      by_cases h : s = t'
      · subst h; simp
      · simp [beq_false h, h]
    · simp only [beq_false hs, cond_false]
      cases Nat.blt t s with
      | true =>
        simp only [cond_true, getE]
        by_cases h : t = t'
        · subst h; simp
        · simp [beq_false h, h]
      | false =>
        simp only [cond_false, getE]
        by_cases h : s = t'
        · subst h
          have : ¬ t = s := fun e => hs e.symm
          simp [this]
        · simp only [beq_false h, cond_false, ih]
theorem getO_setO (h : Heap) (i j : Nat) (o : Obj) : getO (setO h i o) j = if i = j then some o else getO h j := by
  induction h with
  | nil =>
    simp only [setO, getO]
    by_cases e : i = j
    · subst e; simp
    · simp [beq_false e, e]
  | cons p r ih =>
    obtain ⟨s, x⟩ := p
    simp only [setO]
    by_cases hs : s = i
    · subst hs
      simp only [Nat.beq_refl, cond_true, getO]
      by_cases e : s = j
      · subst e; simp
      · simp [beq_false e, e]
    · simp only [beq_false hs, cond_false]
      cases Nat.blt i s with
      | true =>
        simp only [cond_true, getO]
        by_cases e : i = j
        · subst e; simp
        · simp [beq_false e, e]
      | false =>
        simp only [cond_false, getO]
        by_cases e : s = j
        · subst e
          have : ¬ i = s := fun e => hs e.symm
          simp [this]
        · simp only [beq_false e, cond_false, ih]
theorem getO_delO (h : Heap) (i j : Nat) : getO (delO h i) j = if i = j then none else getO h j := by
  induction h with
  | nil => simp [delO, getO]
  | cons p r ih =>
    obtain ⟨s, x⟩ := p
    simp only [delO]
    by_cases hs : s = i
    · subst hs
      simp only [Nat.beq_refl, cond_true, ih]
      by_cases e : s = j
      · simp [e]
      · simp [getO, beq_false e, e]
    · simp only [beq_false hs, cond_false, getO]
      by_cases e : s = j
      · subst e
        have : ¬ i = s := fun e => hs e.symm
        simp [this]
      · simp only [beq_false e, cond_false, ih]
theorem memN_iff (l : List Nat) (x : Nat) : memN l x = true ↔ x ∈ l := by
  induction l with
  | nil => simp [memN]
  | cons a l ih => simp only [memN, Bool.or_eq_true, beq_iff, ih, List.mem_cons]; exact or_congr ⟨Eq.symm, Eq.symm⟩ Iff.rfl
theorem meets_false {a b : List Nat} (h : meets a b = false) : ∀ x, x ∈ a → x ∉ b := by
  intro x hx hb
  have : meets a b = true := by
    unfold meets
    exact List.any_eq_true.2 ⟨x, hx, (memN_iff b x).2 hb⟩
  rw [h] at this
  cases this

/-! ### decisions -/
theorem D.has_andThen {α β : Type} : ∀ (d : D α) (f : α → D β) (b : β), (d.andThen f).Has b ↔ ∃ a, d.Has a ∧ (f a).Has b
  | .ret a, f, b => by simp [D.andThen, D.Has]
  | .fail, f, b => by simp [D.andThen, D.Has]
  | .cond c l r, f, b => by
    simp only [D.andThen, D.Has, D.has_andThen l, D.has_andThen r]
    constructor
    · rintro (⟨hc, a, h⟩ | ⟨hc, a, h⟩)
      · exact ⟨a, .inl ⟨hc, h.1⟩, h.2⟩
      · exact ⟨a, .inr ⟨hc, h.1⟩, h.2⟩
    · rintro ⟨a, ⟨hc, h⟩ | ⟨hc, h⟩, h2⟩
      · exact .inl ⟨hc, a, h, h2⟩
      · exact .inr ⟨hc, a, h, h2⟩
  | .bind γ o g, f, b => by
    simp only [D.andThen, D.Has]
    constructor
    · rintro ⟨y, hy, h⟩
      obtain ⟨a, h1, h2⟩ := (D.has_andThen (g y) f b).1 h
      exact ⟨a, ⟨y, hy, h1⟩, h2⟩
    · rintro ⟨a, ⟨y, hy, h1⟩, h2⟩
      exact ⟨y, hy, (D.has_andThen (g y) f b).2 ⟨a, h1, h2⟩⟩
  | .cases γ δ s g g', f, b => by
    simp only [D.andThen, D.Has]
    constructor
    · rintro (⟨y, hy, h⟩ | ⟨y, hy, h⟩)
      · obtain ⟨a, h1, h2⟩ := (D.has_andThen (g y) f b).1 h
        exact ⟨a, .inl ⟨y, hy, h1⟩, h2⟩
      · obtain ⟨a, h1, h2⟩ := (D.has_andThen (g' y) f b).1 h
        exact ⟨a, .inr ⟨y, hy, h1⟩, h2⟩
    · rintro ⟨a, ⟨y, hy, h1⟩ | ⟨y, hy, h1⟩, h2⟩
      · exact .inl ⟨y, hy, (D.has_andThen (g y) f b).2 ⟨a, h1, h2⟩⟩
      · exact .inr ⟨y, hy, (D.has_andThen (g' y) f b).2 ⟨a, h1, h2⟩⟩
theorem D.has_of_run {α : Type} : ∀ (d : D α) (a : α), d.run = some a → d.Has a
  | .ret x, a, h => by simpa [D.run, D.Has] using h
  | .fail, a, h => by simp [D.run] at h
  | .cond c l r, a, h => by
    cases c
    · exact .inr ⟨rfl, D.has_of_run r a h⟩
    · exact .inl ⟨rfl, D.has_of_run l a h⟩
  | .bind β o f, a, h => by
    cases o with
    | none => simp [D.run] at h
    | some y => exact ⟨y, rfl, D.has_of_run (f y) a h⟩
  | .cases β γ s f g, a, h => by
    cases s with
    | inl y => exact .inl ⟨y, rfl, D.has_of_run (f y) a h⟩
    | inr y => exact .inr ⟨y, rfl, D.has_of_run (g y) a h⟩
theorem D.has_of_runK {α β : Type} (k : α → Option β) (b : β) : ∀ (d : D α), d.runK k = some b → ∃ a, d.Has a ∧ k a = some b
  | .ret x, h => ⟨x, rfl, h⟩
  | .fail, h => by simp [D.runK] at h
  | .cond c l r, h => by
    cases c
    · obtain ⟨a, h1, h2⟩ := D.has_of_runK k b r h; exact ⟨a, .inr ⟨rfl, h1⟩, h2⟩
    · obtain ⟨a, h1, h2⟩ := D.has_of_runK k b l h; exact ⟨a, .inl ⟨rfl, h1⟩, h2⟩
  | .bind γ o f, h => by
    cases o with
    | none => simp [D.runK] at h
    | some y => obtain ⟨a, h1, h2⟩ := D.has_of_runK k b (f y) h; exact ⟨a, ⟨y, rfl, h1⟩, h2⟩
  | .cases γ δ s f g, h => by
    cases s with
    | inl y => obtain ⟨a, h1, h2⟩ := D.has_of_runK k b (f y) h; exact ⟨a, .inl ⟨y, rfl, h1⟩, h2⟩
    | inr y => obtain ⟨a, h1, h2⟩ := D.has_of_runK k b (g y) h; exact ⟨a, .inr ⟨y, rfl, h1⟩, h2⟩

def DH.Has {α : Type} : DH α → Heap → α → Heap → Prop
  | .ret a, h, x, h' => a = x ∧ h = h'
  | .fail, _, _, _ => False
  | .cond b t e, h, x, h' => (b = true ∧ t.Has h x h') ∨ (b = false ∧ e.Has h x h')
  | .bind _ o f, h, x, h' => ∃ y, o = some y ∧ (f y).Has h x h'
  | .get id k, h, x, h' => (k (getO h id)).Has h x h'
  | .put id o k, h, x, h' => k.Has (wrO h id o) x h'
  | .len id k, h, x, h' => (k (lenO (getO h id))).Has h x h'
  | .mark id a b c d k, h, x, h' => k.Has (wrO h id (markO a b c d (getO h id))) x h'
theorem DH.has_andThen {α β : Type} : ∀ (d : DH α) (f : α → DH β) (h : Heap) (b : β) (h' : Heap), (d.andThen f).Has h b h' ↔ ∃ a h1, d.Has h a h1 ∧ (f a).Has h1 b h'
  | .ret a, f, h, b, h' => by
    simp only [DH.andThen, DH.Has]
    exact ⟨fun x => ⟨a, h, ⟨rfl, rfl⟩, x⟩, fun ⟨a', h1, ⟨e1, e2⟩, x⟩ => by subst e1; subst e2; exact x⟩
  | .fail, f, h, b, h' => by simp [DH.andThen, DH.Has]
  | .cond c l r, f, h, b, h' => by
    simp only [DH.andThen, DH.Has, DH.has_andThen l, DH.has_andThen r]
    constructor
    · rintro (⟨hc, a, h1, x⟩ | ⟨hc, a, h1, x⟩)
      · exact ⟨a, h1, .inl ⟨hc, x.1⟩, x.2⟩
      · exact ⟨a, h1, .inr ⟨hc, x.1⟩, x.2⟩
    · rintro ⟨a, h1, ⟨hc, x⟩ | ⟨hc, x⟩, y⟩
      · exact .inl ⟨hc, a, h1, x, y⟩
      · exact .inr ⟨hc, a, h1, x, y⟩
  | .bind γ o g, f, h, b, h' => by
    simp only [DH.andThen, DH.Has]
    constructor
    · rintro ⟨y, hy, x⟩
      obtain ⟨a, h1, x1, x2⟩ := (DH.has_andThen (g y) f h b h').1 x
      exact ⟨a, h1, ⟨y, hy, x1⟩, x2⟩
    · rintro ⟨a, h1, ⟨y, hy, x1⟩, x2⟩
      exact ⟨y, hy, (DH.has_andThen (g y) f h b h').2 ⟨a, h1, x1, x2⟩⟩
  | .get id k, f, h, b, h' => by simp only [DH.andThen, DH.Has]; exact DH.has_andThen (k (getO h id)) f h b h'
  | .put id o k, f, h, b, h' => by simp only [DH.andThen, DH.Has]; exact DH.has_andThen k f (wrO h id o) b h'
  | .len id k, f, h, b, h' => by simp only [DH.andThen, DH.Has]; exact DH.has_andThen (k (lenO (getO h id))) f h b h'
  | .mark id p q r s k, f, h, b, h' => by simp only [DH.andThen, DH.Has]; exact DH.has_andThen k f (wrO h id (markO p q r s (getO h id))) b h'
theorem DH.has_of_go {α : Type} : ∀ (d : DH α) (h : Heap) (l : Log) (a : α) (h' : Heap) (l' : Log), (d.go h l).Has (a, h', l') → d.Has h a h'
  | .ret x, h, l, a, h', l', y => by
    simp only [DH.go, D.Has, Prod.mk.injEq] at y
    exact ⟨y.1, y.2.1⟩
  | .fail, h, l, a, h', l', y => by simp [DH.go, D.Has] at y
  | .cond c t e, h, l, a, h', l', y => by
    simp only [DH.go, D.Has] at y
    rcases y with ⟨hc, y⟩ | ⟨hc, y⟩
    · exact .inl ⟨hc, DH.has_of_go t h l a h' l' y⟩
    · exact .inr ⟨hc, DH.has_of_go e h l a h' l' y⟩
  | .bind β o f, h, l, a, h', l', y => by
    simp only [DH.go, D.Has] at y
    obtain ⟨z, hz, y⟩ := y
    exact ⟨z, hz, DH.has_of_go (f z) h l a h' l' y⟩
  | .get id k, h, l, a, h', l', y => DH.has_of_go (k (getO h id)) h _ a h' l' y
  | .put id o k, h, l, a, h', l', y => DH.has_of_go k (wrO h id o) _ a h' l' y
  | .len id k, h, l, a, h', l', y => DH.has_of_go (k (lenO (getO h id))) h _ a h' l' y
  | .mark id p q r s k, h, l, a, h', l', y => DH.has_of_go k (wrO h id (markO p q r s (getO h id))) _ a h' l' y

theorem DH.has_opt {α : Type} {o : Option α} {h : Heap} {a : α} {h' : Heap} (x : (DH.opt o).Has h a h') : o = some a ∧ h' = h := by
  cases o with
  | none => exact x.elim
  | some y => obtain ⟨rfl, rfl⟩ := x; exact ⟨rfl, rfl⟩
theorem has_getD {α : Type} {id : Nat} {k : Option Obj → DH α} {h : Heap} {a : α} {h' : Heap} : ((getD id).andThen k).Has h a h' ↔ (k (getO h id)).Has h a h' := Iff.rfl
theorem has_putD {α : Type} {id : Nat} {o : Option Obj} {k : Unit → DH α} {h : Heap} {a : α} {h' : Heap} : ((putD id o).andThen k).Has h a h' ↔ (k ()).Has (wrO h id o) a h' := Iff.rfl

theorem has_lenD {α : Type} {id : Nat} {k : Option (RT × Nat) → DH α} {h : Heap} {a : α} {h' : Heap} : ((lenD id).andThen k).Has h a h' ↔ (k (lenO (getO h id))).Has h a h' := Iff.rfl
theorem has_markD {α : Type} {id : Nat} {r : Bool} {cs : List Nat} {lo hi : Int} {k : Unit → DH α} {h : Heap} {a : α} {h' : Heap} : ((markD id r cs lo hi).andThen k).Has h a h' ↔ (k ()).Has (wrO h id (markO r cs lo hi (getO h id))) a h' := Iff.rfl

/-! ### ghosts that say more -/
/-- G' says all that G says, of ids and of slices in them. -/
def Gh.le (G G' : Gh) : Prop := (∀ id b, G id = some (.box b) → G' id = some (.box b)) ∧ ∀ id p x, G.at id p = some x → G'.at id p = some x
theorem Gh.le_refl (G : Gh) : G.le G := ⟨fun _ _ h => h, fun _ _ _ h => h⟩
theorem Gh.le_trans {G G' G'' : Gh} (h : G.le G') (h' : G'.le G'') : G.le G'' := ⟨fun i b x => h'.1 i b (h.1 i b x), fun i p x y => h'.2 i p x (h.2 i p x y)⟩
theorem Gh.le_of_same {G G' : Gh} (h : ∀ id go, G id = some go → G' id = some go) : G.le G' := by
  refine ⟨fun id b hb => h id _ hb, fun id p x hx => ?_⟩
  unfold Gh.at at hx ⊢
  cases hg : G id with
  | none => simp [hg] at hx
  | some go => rw [h id go hg]; rw [hg] at hx; exact hx
def Gh.set (G : Gh) (id : Nat) (go : GO) : Gh := fun j => if id = j then some go else G j
theorem Gh.le_set {G : Gh} {id : Nat} (go : GO) (h : G id = none) : G.le (G.set id go) := by
  refine Gh.le_of_same fun j g hg => ?_
  unfold Gh.set
  by_cases e : id = j
  · subst e; rw [h] at hg; cases hg
  · rw [if_neg e]; exact hg

theorem VRelS.mono {B : Base} {G G' : Gh} (h : G.le G') : ∀ {a : AV} {v : Value}, VRelS B G a v → VRelS B G' a v := by
  intro a v x
  cases a with
  | ref id p view =>
    cases view with
    | none => obtain ⟨loc, n, h1, h2⟩ := x; exact ⟨loc, n, h.2 _ _ _ h1, h2⟩
    | some ol => obtain ⟨o, l⟩ := ol; obtain ⟨loc, n, h1, h2⟩ := x; exact ⟨loc, n, h.2 _ _ _ h1, h2⟩
  | ptr id off => obtain ⟨b, h1, h2⟩ := x; exact ⟨b, h.1 _ _ h1, h2⟩
  | eptr id p i c => obtain ⟨b, off, cap, sz, n, h1, h2⟩ := x; exact ⟨b, off, cap, sz, n, h.2 _ _ _ h1, h2⟩
  | _ => exact x
theorem VRelL.mono {B : Base} {G G' : Gh} (h : G.le G') : ∀ {as : List AV} {vs : List Value}, VRelL B G as vs → VRelL B G' as vs
  | [], [], _ => trivial
  | _ :: _, _ :: _, x => ⟨x.1.mono h, VRelL.mono h x.2⟩
  | [], _ :: _, x => x.elim
  | _ :: _, [], x => x.elim
theorem VRelA_S {B : Base} {G : Gh} {a : AV} {v : Value} (h : a.isS = true) : VRelA B G a v = VRelS B G a v := by
  cases a <;> first | rfl | cases h
theorem VRelA_tup {B : Base} {G : Gh} {cs : List AV} {v : Value} : VRelA B G (.tup cs) v = False := rfl
theorem VRelA.mono {B : Base} {G G' : Gh} (h : G.le G') {a : AV} {v : Value} (x : VRelA B G a v) : VRelA B G' a v := by
  cases a with
  | agg cs => obtain ⟨vs, e, x⟩ := x; exact ⟨vs, e, x.mono h⟩
  | func f cs => obtain ⟨vs, e, x⟩ := x; exact ⟨vs, e, x.mono h⟩
  | tup cs => exact x.elim
  | _ => rw [VRelA_S rfl] at x ⊢; exact VRelS.mono h x
theorem VRelAs.mono {B : Base} {G G' : Gh} (h : G.le G') : ∀ {as : List AV} {vs : List Value}, VRelAs B G as vs → VRelAs B G' as vs
  | [], [], _ => trivial
  | _ :: _, _ :: _, x => ⟨x.1.mono h, VRelAs.mono h x.2⟩
  | [], _ :: _, x => x.elim
  | _ :: _, [], x => x.elim
def AV.isT : AV → Bool
  | .tup _ => true
  | _ => false
theorem VRel_A {B : Base} {G : Gh} {a : AV} {v : Value} (h : a.isT = false) : VRel B G a v = VRelA B G a v := by
  cases a <;> first | rfl | cases h
theorem VRel_S {B : Base} {G : Gh} {a : AV} {v : Value} (h : a.isS = true) : VRel B G a v = VRelS B G a v := by
  cases a <;> first | rfl | cases h
theorem VRel.mono {B : Base} {G G' : Gh} (h : G.le G') {a : AV} {v : Value} (x : VRel B G a v) : VRel B G' a v := by
  cases a with
  | tup cs => obtain ⟨vs, e, x⟩ := x; exact ⟨vs, e, x.mono h⟩
  | _ => rw [VRel_A rfl] at x ⊢; exact VRelA.mono h x

theorem VRelL.length {B : Base} {G : Gh} : ∀ {as : List AV} {vs : List Value}, VRelL B G as vs → as.length = vs.length
  | [], [], _ => rfl
  | _ :: _, _ :: _, x => by simp [VRelL.length x.2]
  | [], _ :: _, x => x.elim
  | _ :: _, [], x => x.elim
theorem VRelL.get {B : Base} {G : Gh} : ∀ {as : List AV} {vs : List Value}, VRelL B G as vs → ∀ {j : Nat} {a : AV}, as[j]? = some a → ∃ v, vs[j]? = some v ∧ VRelS B G a v
  | _ :: _, v :: _, x, 0, a, h => by simp at h; subst h; exact ⟨v, by simp, x.1⟩
  | _ :: _, _ :: _, x, j + 1, a, h => by simp at h; obtain ⟨v, h1, h2⟩ := VRelL.get x.2 h; exact ⟨v, by simpa using h1, h2⟩
  | [], _, _, _, _, h => by simp at h
  | _ :: _, [], x, _, _, _ => x.elim
theorem VRelL.of_get {B : Base} {G : Gh} : ∀ {as : List AV} {vs : List Value}, as.length = vs.length → (∀ (j : Nat) (a : AV) (v : Value), as[j]? = some a → vs[j]? = some v → VRelS B G a v) → VRelL B G as vs
  | [], [], _, _ => trivial
  | a :: as, v :: vs, hl, h => ⟨h 0 a v (by simp) (by simp), VRelL.of_get (by simpa using hl) fun j a' v' h1 h2 => h (j + 1) a' v' (by simpa using h1) (by simpa using h2)⟩
  | [], _ :: _, hl, _ => by simp at hl
  | _ :: _, [], hl, _ => by simp at hl
theorem VRelL.append {B : Base} {G : Gh} : ∀ {as : List AV} {vs : List Value} {as' : List AV} {vs' : List Value}, VRelL B G as vs → VRelL B G as' vs' → VRelL B G (as ++ as') (vs ++ vs')
  | [], [], _, _, _, h => h
  | _ :: _, _ :: _, _, _, x, h => ⟨x.1, VRelL.append x.2 h⟩
  | [], _ :: _, _, _, x, _ => x.elim
  | _ :: _, [], _, _, x, _ => x.elim
theorem VRelL.drop {B : Base} {G : Gh} : ∀ (n : Nat) {as : List AV} {vs : List Value}, VRelL B G as vs → VRelL B G (as.drop n) (vs.drop n)
  | 0, _, _, x => x
  | n + 1, [], [], _ => by simp [VRelL]
  | n + 1, _ :: _, _ :: _, x => VRelL.drop n x.2
  | _ + 1, [], _ :: _, x => x.elim
  | _ + 1, _ :: _, [], x => x.elim
theorem VRelL.take {B : Base} {G : Gh} : ∀ (n : Nat) {as : List AV} {vs : List Value}, VRelL B G as vs → VRelL B G (as.take n) (vs.take n)
  | 0, _, _, _ => by simp [VRelL]
  | n + 1, [], [], _ => by simp [VRelL]
  | n + 1, _ :: _, _ :: _, x => ⟨x.1, VRelL.take n x.2⟩
  | _ + 1, [], _ :: _, x => x.elim
  | _ + 1, _ :: _, [], x => x.elim

theorem ORel.mono {B : Base} {G G' : Gh} {w : World} {id : Nat} {o : Obj} (h : G.le G') (hr : ∀ l, G id = some (.row l) → G' id = some (.row l)) (x : ORel B G w id o) : ORel B G' w id o := by
  cases o with
  | box cs => obtain ⟨b, vals, e, h1, h2, h3⟩ := x; exact ⟨b, vals, e, h.1 _ _ h1, h2, h3.mono h⟩
  | robox cs => obtain ⟨b, vs, h1, h2, h3, h4⟩ := x; exact ⟨b, vs, h.1 _ _ h1, h2, h3, h4.mono h⟩
  | row r rows => obtain ⟨l, v, h1, h2⟩ := x; exact ⟨l, v, hr l h1, h2⟩
  | part root cols r rows lo hi => obtain ⟨loc, kids, h1, h2⟩ := x; exact ⟨loc, kids, hr _ h1, h2⟩

end Go.Abs

namespace Go.Abs
open Go.RowKit
set_option linter.unusedSimpArgs false
set_option linter.unusedVariables false

/-! ### paths -/
def L.sub (l : L) : List (Int × Nat) → Option L
  | [] => some l
  | (i, j) :: p => match l with
    | .sl _ kids => match kids[i.toNat]? with
      | some ls => match ls[j]? with
        | some k => if 0 ≤ i then k.sub p else none
        | none => none
      | none => none
    | .leaf => none
theorem L.at_sub : ∀ (p : List (Int × Nat)) (l : L) (x : Loc × Nat), l.at p = some x → ∃ kids, l.sub p = some (.sl x.1 kids) ∧ kids.length = x.2
  | [], l, x, h => by
    cases l with
    | leaf => simp [L.at] at h
    | sl loc kids => simp only [L.at, Option.some.injEq] at h; subst h; exact ⟨kids, rfl, rfl⟩
  | (i, j) :: p, l, x, h => by
    cases l with
    | leaf => simp [L.at] at h
    | sl loc kids =>
      simp only [L.at] at h
      cases h1 : kids[i.toNat]? with
      | none => simp [h1] at h
      | some ls =>
        simp only [h1] at h
        cases h2 : ls[j]? with
        | none => simp [h2] at h
        | some k =>
          simp only [h2] at h
          by_cases h3 : 0 ≤ i
          · rw [if_pos h3] at h
            obtain ⟨ks, h4, h5⟩ := L.at_sub p k x h
            exact ⟨ks, by simp only [L.sub, h1, h2, if_pos h3]; exact h4, h5⟩
          · rw [if_neg h3] at h; cases h

theorem Ls.mem_of_get : ∀ (ls : List L) (j : Nat) (k : L), ls[j]? = some k → ∀ b ∈ k.bl, b ∈ Ls.bl ls
  | [], j, k, h => by simp at h
  | l :: ls, 0, k, h => by simp at h; subst h; intro b hb; simp only [Ls.bl, List.mem_append]; exact .inl hb
  | l :: ls, j + 1, k, h => by intro b hb; simp only [Ls.bl, List.mem_append]; exact .inr (Ls.mem_of_get ls j k (by simpa using h) b hb)
theorem Lss.mem_of_get (kids : List (List L)) (i : Nat) (ls : List L) (h : kids[i]? = some ls) : ∀ b ∈ Ls.bl ls, b ∈ Lss.bl kids := fun b hb =>
  Lss.bl_getD kids i b (by rw [List.getD_eq_getElem?_getD, h]; exact hb)

theorem RowV.slAt {F : Fz} {w : World} {own : Bool} : ∀ (r : RT) (d : r.den) (ls : List L) (b o j : Nat) (q : RT) (rs : List q.den) (k : L), RowV F w own r d ls b o → r.slAt d j = some ⟨q, rs⟩ → ls[j]? = some k →
    ∃ v, w.cell? ⟨b, o + j, none⟩ = some v ∧ CellV F w own (.sl q) rs k v
  | .one c, d, ls, b, o, j, q, rs, k, h, hs, hk => by
    obtain ⟨l, v, rfl, hc, hv⟩ := h
    cases c with
    | sl q' =>
      cases j with
      | zero =>
        simp only [RT.slAt, Option.some.injEq] at hs
        cases hs
        simp at hk
        subst hk
        exact ⟨v, hc, hv⟩
      | succ j => simp [RT.slAt] at hs
    | int k' => cases j <;> simp [RT.slAt] at hs
    | bool => cases j <;> simp [RT.slAt] at hs
    | str => cases j <;> simp [RT.slAt] at hs
    | nl q0 => cases j <;> simp [RT.slAt] at hs
    | vs q0 => cases j <;> simp [RT.slAt] at hs
  | .cons c r, d, ls, b, o, j, q, rs, k, h, hs, hk => by
    obtain ⟨l, ls', rfl, ⟨v, hc, hv⟩, hr⟩ := h
    cases j with
    | zero =>
      simp at hk
      subst hk
      cases c with
      | sl q' =>
        simp only [RT.slAt, Option.some.injEq] at hs
        cases hs
        exact ⟨v, hc, hv⟩
      | int k' => simp [RT.slAt] at hs
      | bool => simp [RT.slAt] at hs
      | str => simp [RT.slAt] at hs
      | nl q0 => simp [RT.slAt] at hs
      | vs q0 => simp [RT.slAt] at hs
    | succ j =>
      have hs' : r.slAt d.2 j = some ⟨q, rs⟩ := by cases c <;> simpa [RT.slAt] using hs
      obtain ⟨v', h1, h2⟩ := RowV.slAt r d.2 ls' b (o + 1) j q rs k hr hs' (by simpa using hk)
      exact ⟨v', by rw [show o + (j + 1) = o + 1 + j by omega]; exact h1, h2⟩

theorem CellV.nav {F : Fz} {w : World} {own : Bool} : ∀ (p : List (Int × Nat)) (r : RT) (rows : List r.den) (l k : L) (v : Value) (q : RT) (rs : List q.den), CellV F w own (.sl r) rows l v → l.sub p = some k → navG r rows p = some ⟨q, rs⟩ →
    ∃ v', CellV F w own (.sl q) rs k v' ∧ ∀ b ∈ k.bl, b ∈ l.bl
  | [], r, rows, l, k, v, q, rs, h, hs, hn => by
    simp only [navG, Option.some.injEq] at hn
    cases hn
    simp only [L.sub, Option.some.injEq] at hs
    subst hs
    exact ⟨v, h, fun _ hb => hb⟩
  | (i, j) :: p, r, rows, l, k, v, q, rs, h, hs, hn => by
    obtain ⟨loc, kids, rfl, hv, hk, hl, hr⟩ := h
    simp only [L.sub] at hs
    cases h1 : kids[i.toNat]? with
    | none => simp [h1] at hs
    | some ls =>
      simp only [h1] at hs
      cases h2 : ls[j]? with
      | none => simp [h2] at hs
      | some k1 =>
        simp only [h2] at hs
        by_cases h3 : 0 ≤ i
        · rw [if_pos h3] at hs
          simp only [navG] at hn
          cases h4 : r.slAt (rows.getD i.toNat r.dflt) j with
          | none => rw [h4] at hn; cases hn
          | some qs =>
            obtain ⟨q1, rs1⟩ := qs
            rw [h4] at hn
            replace hn : navG q1 rs1 p = some ⟨q, rs⟩ := hn
            have hi : i.toNat < List.length rows := by rw [← hk]; exact (List.getElem?_eq_some_iff.1 h1).1
            cases loc with
            | nil => simp only [LocOk] at hl; omega
            | emp a cap => simp only [LocOk] at hl; omega
            | «at» b off cap sz =>
              have hrow := hr b off cap sz rfl i.toNat hi
              rw [List.getD_eq_getElem?_getD (l := kids), h1] at hrow
              obtain ⟨v1, h5, h6⟩ := RowV.slAt r _ ls b _ j q1 rs1 k1 hrow h4 h2
              obtain ⟨v2, h7, h8⟩ := CellV.nav p q1 rs1 k1 k v1 q rs h6 hs hn
              refine ⟨v2, h7, fun b' hb' => ?_⟩
              simp only [L.bl, List.mem_append]
              exact .inr (Lss.mem_of_get kids _ ls h1 _ (Ls.mem_of_get ls j k1 h2 _ (h8 b' hb')))
        · rw [if_neg h3] at hs; cases hs

/-! ### a part of a slice -/
theorem Lss.sublist {a b : List (List L)} (h : a.Sublist b) : (Lss.bl a).Sublist (Lss.bl b) := by
  induction h with
  | slnil => exact List.Sublist.refl _
  | cons x _ ih => simp only [Lss.bl]; exact ih.trans (List.sublist_append_right _ _)
  | cons_cons x _ ih => simp only [Lss.bl]; exact List.Sublist.append (List.Sublist.refl _) ih

def L.cut (l : L) (o n : Int) (loc' : Loc) : L :=
  match l with
  | .sl _ kids => .sl loc' ((kids.drop o.toNat).take n.toNat)
  | .leaf => .leaf

/-- The rows that a view shows lie at its own place. -/
theorem CellV.view {F : Fz} {w : World} {own : Bool} {r : RT} {rows : List r.den} {loc : Loc} {kids : List (List L)} {v0 : Value} (h : CellV F w own (.sl r) rows (.sl loc kids) v0) {o n : Int} {v : Value}
    (hv : viewVal loc kids.length o n v) : ∃ loc', CellV F w own (.sl r) (viewR rows (some (o, n))) (.sl loc' ((kids.drop o.toNat).take n.toNat)) v ∧ (∀ b ∈ loc'.bl, b ∈ loc.bl) ∧ loc'.bl.Sublist loc.bl := by
  obtain ⟨loc0, kids0, e, hv0, hk, hl, hr⟩ := h
  cases e
  obtain ⟨h0, h1, h2, h3⟩ := hv
  have hlen : List.length (viewR rows (some (o, n))) = n.toNat := by
    simp only [viewR, List.length_take, List.length_drop]
    omega
  have hklen : ((kids.drop o.toNat).take n.toNat).length = n.toNat := by
    simp only [List.length_take, List.length_drop]
    omega
  have empty : n.toNat = 0 → ∀ (b off cap sz : Nat) (loc' : Loc), loc' = .at b off cap sz → ∀ i, i < List.length (viewR rows (some (o, n))) → RowV F w own r (List.getD (viewR rows (some (o, n))) i r.dflt) (((kids.drop o.toNat).take n.toNat).getD i []) b (off + i * sz) := by
    intro hz b off cap sz loc' _ i hi
    rw [hlen] at hi
    omega
  cases loc with
  | nil =>
    simp only [LocOk] at hl
    have hz : n.toNat = 0 := by omega
    subst h3
    exact ⟨.nil, ⟨.nil, _, rfl, rfl, by rw [hlen, hklen], by simp only [LocOk]; omega, fun b off cap sz e => by cases e⟩, fun _ hb => hb, List.Sublist.refl _⟩
  | emp a cap =>
    simp only [LocOk] at hl
    have hz : n.toNat = 0 := by omega
    subst h3
    exact ⟨.emp a cap, ⟨.emp a cap, _, rfl, rfl, by rw [hlen, hklen], ⟨by omega, hl.2⟩, fun b off c sz e => by cases e⟩, fun _ hb => hb, List.Sublist.refl _⟩
  | «at» b off cap sz =>
    obtain ⟨hs, hn, ho⟩ := hl
    subst hs
    obtain ⟨c', hc⟩ := h3
    rcases hc with ⟨rfl, hc⟩ | ⟨hz, hc, a, rfl⟩
    · refine ⟨.at b (off + o.toNat * r.size) c' r.size, ⟨_, _, rfl, by simp only [Loc.val, hlen], by rw [hlen, hklen], ⟨rfl, by omega, fun hw => ?_⟩, fun b' off' cap' sz' e i hi => ?_⟩, fun _ hb => hb, List.Sublist.refl _⟩
      · obtain ⟨vals, e, h4, h5⟩ := ho hw
        refine ⟨vals, e, h4, ?_⟩
        have : cap * r.size = o.toNat * r.size + c' * r.size := by rw [← hc, Nat.add_mul]
        omega
      · cases e
        rw [hlen] at hi
        have hx := hr b off cap r.size rfl (o.toNat + i) (by omega)
        have e1 : List.getD (viewR rows (some (o, n))) i r.dflt = List.getD rows (o.toNat + i) r.dflt := by
          simp only [viewR, List.getD_eq_getElem?_getD, List.getElem?_take, List.getElem?_drop]
          rw [if_pos hi]
        have e2 : ((kids.drop o.toNat).take n.toNat).getD i [] = kids.getD (o.toNat + i) [] := by
          simp only [List.getD_eq_getElem?_getD, List.getElem?_take, List.getElem?_drop]
          rw [if_pos hi]
        rw [e1, e2, show off + o.toNat * r.size + i * r.size = off + (o.toNat + i) * r.size by rw [Nat.add_mul]; omega]
        exact hx
    · refine ⟨.emp (some a) 0, ⟨_, _, rfl, rfl, by rw [hlen, hklen], ⟨by omega, fun _ => rfl, fun _ => rfl⟩, fun b' off' cap' sz' e => by cases e⟩, fun _ hb => by simp [Loc.bl] at hb, by simp [Loc.bl]⟩

theorem castL_rel {F : Fz} {w : World} {own : Bool} {q r : RT} (e : q.same r = true) {x : List q.den} {l : L} {v : Value} (h : CellV F w own (.sl q) x l v) : CellV F w own (.sl r) (castL e x) l v := by
  have := RT.eq_of_same e
  subst this
  exact h
theorem castL_length {q r : RT} (e : q.same r = true) (x : List q.den) : (castL e x).length = x.length := by
  have := RT.eq_of_same e
  subst this
  rfl

end Go.Abs

namespace Go.Abs
open Go.RowKit
set_option linter.unusedSimpArgs false
set_option linter.unusedVariables false
set_option linter.unusedSimpArgs false

/-! ### what is held in the hand: trees that no object has -/
structure Held (B : Base) (G : Gh) (h : Heap) (w : World) (bs : List Nat) : Prop where
  nodup : bs.Nodup
  mine : ∀ b ∈ bs, b < w.heap.size ∧ ¬ B.safe b
  apart : ∀ id o go, getO h id = some o → ownd o = true → G id = some go → ∀ b ∈ bs, b ∉ obl o go
theorem Held.nil {B : Base} {G : Gh} {h : Heap} {w : World} : Held B G h w [] := ⟨List.nodup_nil, fun _ h => absurd h List.not_mem_nil, fun _ _ _ _ _ _ _ h => absurd h List.not_mem_nil⟩
theorem Held.sub {B : Base} {G : Gh} {h : Heap} {w : World} {bs bs' : List Nat} (x : Held B G h w bs) (hs : bs'.Sublist bs) : Held B G h w bs' :=
  ⟨x.nodup.sublist hs, fun b hb => x.mine b (hs.subset hb), fun id o go h1 h2 h3 b hb => x.apart id o go h1 h2 h3 b (hs.subset hb)⟩
theorem Held.perm {B : Base} {G : Gh} {h : Heap} {w : World} {bs bs' : List Nat} (x : Held B G h w bs) (hs : bs.Perm bs') : Held B G h w bs' :=
  ⟨hs.nodup_iff.1 x.nodup, fun b hb => x.mine b (hs.mem_iff.2 hb), fun id o go h1 h2 h3 b hb => x.apart id o go h1 h2 h3 b (hs.mem_iff.2 hb)⟩
theorem Held.heap {B : Base} {G : Gh} {h h' : Heap} {w : World} {bs : List Nat} (x : Held B G h w bs) (hh : ∀ i o, getO h' i = some o → getO h i = some o) : Held B G h' w bs :=
  ⟨x.nodup, x.mine, fun id o go h1 h2 h3 => x.apart id o go (hh _ _ h1) h2 h3⟩

theorem Sim.heap {B : Base} {G : Gh} {h h' : Heap} {w : World} (s : Sim B G h w) (hh : ∀ i o, getO h' i = some o → getO h i = some o) : Sim B G h' w :=
  ⟨fun id o x => s.obj id o (hh _ _ x), fun id o go x => s.nodup id o go (hh _ _ x), fun id o go x => s.mine id o go (hh _ _ x),
   fun i j o o' go go' hne x y => s.apart i j o o' go go' hne (hh _ _ x) (hh _ _ y), s.os, s.tape, s.output, s.size, s.safe⟩
theorem del_sub (h : Heap) (id : Nat) : ∀ i o, getO (delO h id) i = some o → getO h i = some o := by
  intro i o x
  rw [getO_delO] at x
  by_cases e : id = i
  · rw [if_pos e] at x; cases x
  · rw [if_neg e] at x; exact x

/-- An object that leaves the heap: what it had is in the hand. -/
theorem Held.take {B : Base} {G : Gh} {h : Heap} {w : World} {bs : List Nat} (s : Sim B G h w) (x : Held B G h w bs) {id : Nat} {o : Obj} {go : GO} (ho : getO h id = some o) (hw : ownd o = true) (hg : G id = some go)
    {bs' : List Nat} (hb : bs'.Sublist (obl o go)) : Held B G (delO h id) w (bs ++ bs') := by
  refine ⟨List.nodup_append.2 ⟨x.nodup, (s.nodup id o go ho hw hg).sublist hb, fun a ha b hb' e => ?_⟩, fun b hm => ?_, fun i o' go' h1 h2 h3 b hm => ?_⟩
  · subst e; exact x.apart id o go ho hw hg a ha (hb.subset hb')
  · rcases List.mem_append.1 hm with hm | hm
    · exact x.mine b hm
    · exact s.mine id o go ho hw hg b (hb.subset hm)
  · have hne : id ≠ i := by
      intro e
      subst e
      rw [getO_delO, if_pos rfl] at h1
      cases h1
    have h1' := del_sub h id i o' h1
    rcases List.mem_append.1 hm with hm | hm
    · exact x.apart i o' go' h1' h2 h3 b hm
    · exact s.apart id i o o' go go' hne ho h1' hw h2 hg h3 b (hb.subset hm)

theorem same_int {a b : IntKind} (h : IntKind.same a b = true) : a = b := IntKind.eq_of_same h

/-- Where the blocks of what is read lie. -/
def Seen (B : Base) (G : Gh) (h : Heap) (ids : List Nat) (b : Nat) : Prop := B.safe b ∨ ∃ id o go, id ∈ ids ∧ getO h id = some o ∧ ownd o = true ∧ G id = some go ∧ b ∈ obl o go

theorem navD_has {id : Nat} {p : List (Int × Nat)} {h h' : Heap} {x : (q : RT) × List q.den} (hn : (navD id p).Has h x h') : h' = h ∧ ∃ r rows, getO h id = some (.row r rows) ∧ navG r rows p = some x := by
  unfold navD at hn
  change (DH.andThen (getD id) _).Has h x h' at hn
  rw [has_getD] at hn
  cases ho : getO h id with
  | none => rw [ho] at hn; exact hn.elim
  | some o =>
    rw [ho] at hn
    cases o with
    | row r rows =>
      obtain ⟨h1, h2⟩ := DH.has_opt hn
      exact ⟨h2, r, rows, rfl, h1⟩
    | part root cols r rows lo hi => exact hn.elim
    | box cs => exact hn.elim
    | robox cs => exact hn.elim

theorem navP_has {id : Nat} {p : List (Int × Nat)} {h h' : Heap} {x : (q : RT) × List q.den} (hn : (navP id p).Has h x h') : h' = h ∧ ((∃ r rows, getO h id = some (.row r rows) ∧ navG r rows p = some x) ∨
    ∃ root cols r rows lo hi i j p', getO h id = some (.part root cols r rows lo hi) ∧ p = (i, j) :: p' ∧ memN cols j = false ∧ lo ≤ i ∧ i < hi ∧ navG r rows p = some x) := by
  unfold navP at hn
  rw [has_getD] at hn
  cases ho : getO h id with
  | none => rw [ho] at hn; exact hn.elim
  | some o =>
    rw [ho] at hn
    cases o with
    | row r rows =>
      obtain ⟨h1, h2⟩ := DH.has_opt hn
      exact ⟨h2, .inl ⟨r, rows, rfl, h1⟩⟩
    | part root cols r rows lo hi =>
      cases p with
      | nil => exact hn.elim
      | cons x0 p =>
        obtain ⟨i, j⟩ := x0
        simp only at hn
        cases hm : memN cols j with
        | true => rw [hm] at hn; exact hn.elim
        | false =>
          rw [hm] at hn
          rcases hn with ⟨hc, hn⟩ | ⟨_, hn⟩
          · simp only [Bool.and_eq_true, decide_eq_true_eq] at hc
            obtain ⟨h1, h2⟩ := DH.has_opt hn
            exact ⟨h2, .inr ⟨root, cols, r, rows, lo, hi, i, j, p, rfl, rfl, hm, hc.1, hc.2, h1⟩⟩
          · exact hn.elim
    | box cs => exact hn.elim
    | robox cs => exact hn.elim

theorem Gh.at_row {G : Gh} {id : Nat} {p : List (Int × Nat)} {loc : Loc} {n : Nat} (h : G.at id p = some (loc, n)) : ∃ l kids, G id = some (.row l) ∧ l.sub p = some (.sl loc kids) ∧ kids.length = n := by
  unfold Gh.at at h
  cases hg : G id with
  | none => rw [hg] at h; cases h
  | some go =>
    rw [hg] at h
    cases go with
    | box b => cases h
    | row l =>
      obtain ⟨kids, h1, h2⟩ := L.at_sub p l _ h
      exact ⟨l, kids, rfl, h1, h2⟩

/-- The slice that a reference names, as it lies in memory. -/
theorem Sim.nav {B : Base} {G : Gh} {h : Heap} {w : World} (s : Sim B G h w) {id : Nat} {p : List (Int × Nat)} {loc : Loc} {n : Nat} (hG : G.at id p = some (loc, n)) {r : RT} {rows : List r.den} (ho : getO h id = some (.row r rows))
    {q : RT} {rs : List q.den} (hn : navG r rows p = some ⟨q, rs⟩) : ∃ l kids, G id = some (.row l) ∧ kids.length = n ∧ CellV B.fz w true (.sl q) rs (.sl loc kids) (loc.val n) ∧ n = List.length rs ∧ (∀ b ∈ (L.sl loc kids).bl, b ∈ l.bl) ∧ l.sub p = some (.sl loc kids) := by
  obtain ⟨l, kids, hg, hsub, hk⟩ := Gh.at_row hG
  obtain ⟨l', v', hg', hc⟩ := s.obj id _ ho
  rw [hg] at hg'
  cases hg'
  obtain ⟨v'', hc', hb⟩ := CellV.nav p r rows l _ v' q rs hc hsub hn
  have hlen : n = List.length rs := by
    obtain ⟨loc0, kids0, e, hv, hkk, _⟩ := hc'
    cases e
    omega
  refine ⟨l, kids, hg, hk, ?_, hlen, hb, hsub⟩
  obtain ⟨loc0, kids0, e, hv, hkk, hl, hr⟩ := hc'
  cases e
  exact ⟨loc, kids, rfl, by rw [hlen], hkk, hl, hr⟩

theorem RowK.slAt {F : Fz} {w : World} {cols : List Nat} : ∀ (r : RT) (d : r.den) (ls : List L) (j0 j : Nat) (q : RT) (rs : List q.den) (k : L), RowK F w cols j0 r d ls → r.slAt d j = some ⟨q, rs⟩ → ls[j]? = some k → memN cols (j0 + j) = false → ∃ v, CellV F w true (.sl q) rs k v
  | .one c, d, ls, j0, j, q, rs, k, h, hs, hk, hm => by
    obtain ⟨l, rfl, hv⟩ := h
    cases c with
    | sl q' =>
      cases j with
      | zero =>
        simp only [RT.slAt, Option.some.injEq] at hs
        cases hs
        simp at hk
        subst hk
        exact hv hm
      | succ j => simp [RT.slAt] at hs
    | int k' => cases j <;> simp [RT.slAt] at hs
    | bool => cases j <;> simp [RT.slAt] at hs
    | str => cases j <;> simp [RT.slAt] at hs
    | nl q0 => cases j <;> simp [RT.slAt] at hs
    | vs q0 => cases j <;> simp [RT.slAt] at hs
  | .cons c r, d, ls, j0, j, q, rs, k, h, hs, hk, hm => by
    obtain ⟨l, ls', rfl, hv, hr⟩ := h
    cases j with
    | zero =>
      simp at hk
      subst hk
      cases c with
      | sl q' =>
        simp only [RT.slAt, Option.some.injEq] at hs
        cases hs
        exact hv hm
      | int k' => simp [RT.slAt] at hs
      | bool => simp [RT.slAt] at hs
      | str => simp [RT.slAt] at hs
      | nl q0 => simp [RT.slAt] at hs
      | vs q0 => simp [RT.slAt] at hs
    | succ j =>
      have hs' : r.slAt d.2 j = some ⟨q, rs⟩ := by cases c <;> simpa [RT.slAt] using hs
      exact RowK.slAt r d.2 ls' (j0 + 1) j q rs k hr hs' (by simpa using hk) (by rw [show j0 + 1 + j = j0 + (j + 1) by omega]; exact hm)
theorem Ls.blX_get {cols : List Nat} : ∀ (ls : List L) (j0 j : Nat) (k : L), ls[j]? = some k → memN cols (j0 + j) = false → k.bl.Sublist (Ls.blX cols j0 ls)
  | [], j0, j, k, h, _ => by simp at h
  | l :: ls, j0, 0, k, h, hm => by
    simp only [List.getElem?_cons_zero, Option.some.injEq] at h
    subst h
    simp only [Ls.blX]
    rw [show memN cols j0 = false from hm]
    exact List.sublist_append_left _ _
  | l :: ls, j0, j + 1, k, h, hm => by
    simp only [Ls.blX]
    exact (Ls.blX_get ls (j0 + 1) j k (by simpa using h) (by rw [show j0 + 1 + j = j0 + (j + 1) by omega]; exact hm)).trans (List.sublist_append_right _ _)
theorem Lss.blP_get {cols : List Nat} {lo hi : Int} : ∀ (kids : List (List L)) (i0 i : Nat) (ls : List L), kids[i]? = some ls → lo ≤ ((i0 + i : Nat) : Int) → ((i0 + i : Nat) : Int) < hi → (Ls.blX cols 0 ls).Sublist (Lss.blP cols lo hi i0 kids)
  | [], i0, i, ls, h, _, _ => by simp at h
  | k :: kids, i0, 0, ls, h, h1, h2 => by
    simp only [List.getElem?_cons_zero, Option.some.injEq] at h
    subst h
    simp only [Nat.add_zero] at h1 h2
    simp only [Lss.blP, decide_eq_true h1, decide_eq_true h2, Bool.and_self, cond_true]
    exact List.sublist_append_left _ _
  | k :: kids, i0, i + 1, ls, h, h1, h2 => by
    simp only [Lss.blP]
    exact (Lss.blP_get kids (i0 + 1) i ls (by simpa using h) (by rw [show i0 + 1 + i = i0 + (i + 1) by omega]; exact h1) (by rw [show i0 + 1 + i = i0 + (i + 1) by omega]; exact h2)).trans (List.sublist_append_right _ _)
theorem L.sub_subl : ∀ (p : List (Int × Nat)) (l k : L), l.sub p = some k → k.bl.Sublist l.bl
  | [], l, k, h => by simp only [L.sub, Option.some.injEq] at h; subst h; exact List.Sublist.refl _
  | (i1, j1) :: p, l, k, h => by
    cases l with
    | leaf => simp [L.sub] at h
    | sl loc kids =>
      simp only [L.sub] at h
      cases e1 : kids[i1.toNat]? with
      | none => simp [e1] at h
      | some ks =>
        simp only [e1] at h
        cases e2 : ks[j1]? with
        | none => simp [e2] at h
        | some k1 =>
          simp only [e2] at h
          by_cases e3 : 0 ≤ i1
          · rw [if_pos e3] at h
            have a1 : ∀ (ls : List L) (j : Nat) (k : L), ls[j]? = some k → k.bl.Sublist (Ls.bl ls) := by
              intro ls
              induction ls with
              | nil => intro j k h; simp at h
              | cons l ls ih =>
                intro j k h
                cases j with
                | zero => simp only [List.getElem?_cons_zero, Option.some.injEq] at h; subst h; exact List.sublist_append_left _ _
                | succ j => exact (ih j k (by simpa using h)).trans (List.sublist_append_right _ _)
            have a2 : ∀ (kids : List (List L)) (i : Nat) (ls : List L), kids[i]? = some ls → (Ls.bl ls).Sublist (Lss.bl kids) := by
              intro kids
              induction kids with
              | nil => intro i k h; simp at h
              | cons l ls ih =>
                intro i k h
                cases i with
                | zero => simp only [List.getElem?_cons_zero, Option.some.injEq] at h; subst h; exact List.sublist_append_left _ _
                | succ i => exact (ih i k (by simpa using h)).trans (List.sublist_append_right _ _)
            exact (((L.sub_subl p k1 k h).trans (a1 ks j1 k1 e2)).trans (a2 kids _ ks e1)).trans (List.sublist_append_right _ _)
          · rw [if_neg e3] at h; cases h
/-- The slice that a reference names, in an object or in what is left of one. -/
theorem Sim.navQ {B : Base} {G : Gh} {h h' : Heap} {w : World} (s : Sim B G h w) {id : Nat} {p : List (Int × Nat)} {loc : Loc} {n : Nat} (hG : G.at id p = some (loc, n)) {q : RT} {rs : List q.den} (hn : (navP id p).Has h ⟨q, rs⟩ h') :
    h' = h ∧ ∃ o go kids, getO h id = some o ∧ ownd o = true ∧ G id = some go ∧ kids.length = n ∧ CellV B.fz w true (.sl q) rs (.sl loc kids) (loc.val n) ∧ n = List.length rs ∧ (L.sl loc kids).bl.Sublist (obl o go) ∧ ∃ l, go = .row l ∧ l.sub p = some (.sl loc kids) := by
  obtain ⟨rfl, ⟨r, rows, ho, hnav⟩ | ⟨root, cols, r, rows, lo, hi, i, j, p', ho, rfl, hm, hlo, hhi, hnav⟩⟩ := navP_has hn
  · obtain ⟨l, kids, hg, hk, hc, hlen, hb, hsub⟩ := s.nav hG ho hnav
    exact ⟨rfl, _, _, kids, ho, rfl, hg, hk, hc, hlen, L.sub_subl _ _ _ hsub, l, rfl, hsub⟩
  · obtain ⟨l, kids, hg, hsub, hk⟩ := Gh.at_row hG
    obtain ⟨loc0, kids0, hg', hp⟩ := s.obj id _ ho
    rw [hg] at hg'
    cases hg'
    have hsub0 := hsub
    simp only [L.sub] at hsub
    cases h1 : kids0[i.toNat]? with
    | none => simp [h1] at hsub
    | some ls =>
      simp only [h1] at hsub
      cases h2 : ls[j]? with
      | none => simp [h2] at hsub
      | some k1 =>
        simp only [h2] at hsub
        by_cases h3 : 0 ≤ i
        · rw [if_pos h3] at hsub
          simp only [navG] at hnav
          cases h4 : r.slAt (rows.getD i.toNat r.dflt) j with
          | none => rw [h4] at hnav; cases hnav
          | some qs =>
            obtain ⟨q1, rs1⟩ := qs
            rw [h4] at hnav
            replace hnav : navG q1 rs1 p' = some ⟨q, rs⟩ := hnav
            have hi' : i.toNat < List.length rows := by rw [← hp.len]; exact (List.getElem?_eq_some_iff.1 h1).1
            have hrow := hp.rows i.toNat hi' (by omega) (by omega)
            rw [List.getD_eq_getElem?_getD (l := kids0), h1] at hrow
            obtain ⟨v1, h5⟩ := RowK.slAt r _ ls 0 j q1 rs1 k1 hrow h4 h2 (by rw [Nat.zero_add]; exact hm)
            obtain ⟨v2, h6, _⟩ := CellV.nav p' q1 rs1 k1 _ v1 q rs h5 hsub hnav
            have hlen : n = List.length rs := by
              obtain ⟨loc1, kids1, e, hv, hkk, _⟩ := h6
              cases e
              omega
            refine ⟨rfl, _, _, kids, ho, rfl, hg, hk, ?_, hlen, ?_, _, rfl, hsub0⟩
            · obtain ⟨loc1, kids1, e, hv, hkk, hl, hr⟩ := h6
              cases e
              exact ⟨loc, kids, rfl, by rw [hlen], hkk, hl, hr⟩
            · show (L.sl loc kids).bl.Sublist ((bif root then loc0.bl else []) ++ Lss.blP cols lo hi 0 kids0)
              exact ((L.sub_subl p' k1 _ hsub).trans ((Ls.blX_get ls 0 j k1 h2 (by rw [Nat.zero_add]; exact hm)).trans (Lss.blP_get kids0 0 i.toNat ls h1 (by omega) (by omega)))).trans (List.sublist_append_right _ _)
        · rw [if_neg h3] at hsub; cases hsub

theorem Sim.navP {B : Base} {G : Gh} {h h' : Heap} {w : World} (s : Sim B G h w) {id : Nat} {p : List (Int × Nat)} {loc : Loc} {n : Nat} (hG : G.at id p = some (loc, n)) {q : RT} {rs : List q.den} (hn : (navP id p).Has h ⟨q, rs⟩ h') :
    h' = h ∧ ∃ o go kids, getO h id = some o ∧ ownd o = true ∧ G id = some go ∧ kids.length = n ∧ CellV B.fz w true (.sl q) rs (.sl loc kids) (loc.val n) ∧ n = List.length rs ∧ (L.sl loc kids).bl.Sublist (obl o go) := by
  obtain ⟨h1, o, go, kids, a, b, c, d, e, f, g, _⟩ := s.navQ hG hn
  exact ⟨h1, o, go, kids, a, b, c, d, e, f, g⟩
theorem nilV {F : Fz} {w : World} {own : Bool} (r : RT) (a : Option Addr) (cap : Nat) (h : cap = 0) : CellV F w own (.sl r) ([] : List r.den) (.sl (.emp a cap) []) (.slice a 0 cap) :=
  ⟨.emp a cap, [], rfl, rfl, rfl, ⟨rfl, fun _ => h, fun _ => h⟩, fun b off c sz e => by cases e⟩

theorem rdCell_sound {B : Base} {G : Gh} {h : Heap} {w : World} (s : Sim B G h w) {c : CT} {a : AV} {v : Value} (ha : VRelS B G a v) {d : c.den} {h' : Heap} (hr : (rdCell c a).Has h d h') :
    h' = h ∧ ∃ l, CellV B.fz w false c d l v ∧ ∀ b ∈ l.bl, Seen B G h a.idsS b := by
  cases c with
  | int k =>
    cases a with
    | int k' n =>
      simp only [rdCell] at hr
      cases e : IntKind.same k' k with
      | false => rw [e] at hr; exact hr.elim
      | true =>
        rw [e] at hr
        obtain ⟨rfl, rfl⟩ := hr
        have := same_int e
        subst this
        exact ⟨rfl, .leaf, ⟨rfl, ha⟩, fun b hb => by simp [L.bl] at hb⟩
    | _ => exact hr.elim
  | bool =>
    cases a with
    | bool b => obtain ⟨rfl, rfl⟩ := hr; exact ⟨rfl, .leaf, ⟨rfl, ha⟩, fun b hb => by simp [L.bl] at hb⟩
    | _ => exact hr.elim
  | str =>
    cases a with
    | str b => obtain ⟨rfl, rfl⟩ := hr; exact ⟨rfl, .leaf, ⟨rfl, ha⟩, fun b hb => by simp [L.bl] at hb⟩
    | _ => exact hr.elim
  | nl q0 =>
    cases a with
    | nil q => obtain ⟨rfl, rfl⟩ := hr; exact ⟨rfl, .leaf, ⟨rfl, none, ha⟩, fun b hb => by simp [L.bl] at hb⟩
    | emp => obtain ⟨rfl, rfl⟩ := hr; exact ⟨rfl, .leaf, ⟨rfl, ha⟩, fun b hb => by simp [L.bl] at hb⟩
    | _ => exact hr.elim
  | vs q0 => cases a <;> exact hr.elim
  | sl r =>
    cases a with
    | nil q =>
      obtain ⟨rfl, rfl⟩ := hr
      rw [show v = .slice none 0 0 from ha]
      exact ⟨rfl, _, nilV r none 0 rfl, fun b hb => by simp [L.bl, Loc.bl, Lss.bl] at hb⟩
    | emp =>
      obtain ⟨rfl, rfl⟩ := hr
      obtain ⟨a, rfl⟩ := ha
      exact ⟨rfl, _, nilV r a 0 rfl, fun b hb => by simp [L.bl, Loc.bl, Lss.bl] at hb⟩
    | bor t q x =>
      simp only [rdCell] at hr
      by_cases e : q.same r = true
      · rw [dif_pos e] at hr
        obtain ⟨rfl, rfl⟩ := hr
        obtain ⟨⟨l, hl, hb⟩, _⟩ := ha
        exact ⟨rfl, l, castL_rel e (CellV.of0 (hl.keep _ _ _ _ fun b hm => s.safe b (hb b hm))), fun b hm => .inl (hb b hm)⟩
      · rw [dif_neg e] at hr; exact hr.elim
    | ref id p view =>
      simp only [rdCell] at hr
      obtain ⟨x, h1, hn, hr⟩ := (DH.has_andThen _ _ _ _ _).1 hr
      obtain ⟨q, rs⟩ := x
      by_cases e : q.same r = true
      · simp only [dif_pos e] at hr
        obtain ⟨rfl, rfl⟩ := hr
        cases view with
        | none =>
          obtain ⟨loc, n, hG, rfl⟩ := ha
          obtain ⟨rfl, o, go, kids, ho, how, hg, hk, hc, hlen, hb⟩ := s.navP hG hn
          exact ⟨rfl, _, castL_rel e hc.lend, fun b hm => .inr ⟨id, _, _, by simp [AV.idsS], ho, how, hg, hb.subset hm⟩⟩
        | some ol =>
          obtain ⟨o, n'⟩ := ol
          obtain ⟨loc, n, hG, hv⟩ := ha
          obtain ⟨rfl, ob, go, kids, ho, how, hg, hk, hc, hlen, hb⟩ := s.navP hG hn
          subst hk
          obtain ⟨loc', hc', hlb, _⟩ := CellV.view (castL_rel e hc.lend) hv
          refine ⟨rfl, _, hc', fun b hm => .inr ⟨id, _, _, by simp [AV.idsS], ho, how, hg, hb.subset ?_⟩⟩
          simp only [L.bl, List.mem_append] at hm ⊢
          rcases hm with hm | hm
          · exact .inl (hlb b hm)
          · exact .inr ((Lss.sublist ((List.take_sublist _ _).trans (List.drop_sublist _ _))).subset hm)
      · simp only [dif_neg e] at hr; exact hr.elim
    | _ => exact hr.elim

theorem CellV.flat_bl {F : Fz} {w : World} {own : Bool} {c : CT} (hf : c.flat = true) {d : c.den} {l : L} {v : Value} (h : CellV F w own c d l v) : l = .leaf := by
  cases c with
  | sl r => cases hf
  | int k => exact h.1
  | bool => exact h.1
  | str => exact h.1
  | nl q0 => exact h.1
  | vs q0 => exact h.1
theorem CellV.own {F : Fz} {w : World} {own own' : Bool} {c : CT} (hf : c.flat = true) {d : c.den} {l : L} {v : Value} (h : CellV F w own c d l v) : CellV F w own' c d l v := by
  cases c with
  | sl r => cases hf
  | int k => exact h
  | bool => exact h
  | str => exact h
  | nl q0 => exact h
  | vs q0 => exact h

theorem Ls.sublist_of_get : ∀ (ls : List L) (j : Nat) (k : L), ls[j]? = some k → k.bl.Sublist (Ls.bl ls)
  | [], j, k, h => by simp at h
  | l :: ls, 0, k, h => by simp only [List.getElem?_cons_zero, Option.some.injEq] at h; subst h; exact List.sublist_append_left _ _
  | l :: ls, j + 1, k, h => (Ls.sublist_of_get ls j k (by simpa using h)).trans (List.sublist_append_right _ _)
theorem Lss.sublist_of_get : ∀ (kids : List (List L)) (i : Nat) (ls : List L), kids[i]? = some ls → (Ls.bl ls).Sublist (Lss.bl kids)
  | [], i, k, h => by simp at h
  | l :: ls, 0, k, h => by simp only [List.getElem?_cons_zero, Option.some.injEq] at h; subst h; exact List.sublist_append_left _ _
  | l :: ls, i + 1, k, h => (Lss.sublist_of_get ls i k (by simpa using h)).trans (List.sublist_append_right _ _)
theorem L.sub_sublist : ∀ (p : List (Int × Nat)) (l k : L), l.sub p = some k → k.bl.Sublist l.bl
  | [], l, k, h => by simp only [L.sub, Option.some.injEq] at h; subst h; exact List.Sublist.refl _
  | (i1, j1) :: p, l, k, h => by
    cases l with
    | leaf => simp [L.sub] at h
    | sl loc kids =>
      simp only [L.sub] at h
      cases e1 : kids[i1.toNat]? with
      | none => simp [e1] at h
      | some ks =>
        simp only [e1] at h
        cases e2 : ks[j1]? with
        | none => simp [e2] at h
        | some k1 =>
          simp only [e2] at h
          by_cases e3 : 0 ≤ i1
          · rw [if_pos e3] at h
            exact (((L.sub_sublist p k1 k h).trans (Ls.sublist_of_get ks j1 k1 e2)).trans (Lss.sublist_of_get kids _ ks e1)).trans (List.sublist_append_right _ _)
          · rw [if_neg e3] at h; cases h
theorem CellV.slice {F : Fz} {w : World} {own : Bool} {r : RT} {x : List r.den} {l : L} {v : Value} (h : CellV F w own (.sl r) x l v) : ∃ a n c, v = .slice a n c := by
  obtain ⟨loc, kids, _, rfl, _⟩ := h
  cases loc <;> exact ⟨_, _, _, rfl⟩
theorem Base.fz_emp {B : Base} (r : RT) (a : Option Addr) : B.fz r [] (.slice a 0 0) := ⟨_, nilV r a 0 rfl, fun b hb => by simp [L.bl, Loc.bl, Lss.bl] at hb⟩
theorem mvCell_sound {B : Base} {G : Gh} {h : Heap} {w : World} (s : Sim B G h w) {c : CT} {a : AV} {v : Value} (ha : VRelS B G a v) {bs : List Nat} (hh : Held B G h w bs) {d : c.den} {h' : Heap} (hr : (mvCell c a).Has h d h') :
    ∃ l, CellV B.fz w true c d l v ∧ Held B G h' w (bs ++ l.bl) ∧ Sim B G h' w ∧ ∀ i o, getO h' i = some o → getO h i = some o := by
  have plain : c.flat = true → (rdCell c a).Has h d h' → ∃ l, CellV B.fz w true c d l v ∧ Held B G h' w (bs ++ l.bl) ∧ Sim B G h' w ∧ ∀ i o, getO h' i = some o → getO h i = some o := by
    intro hf hr
    obtain ⟨rfl, l, hl, _⟩ := rdCell_sound s ha hr
    have := hl.flat_bl hf
    subst this
    exact ⟨_, hl.own hf, by simpa [L.bl] using hh, s, fun _ _ h => h⟩
  cases c with
  | int k => exact plain rfl (by cases a <;> exact hr)
  | bool => exact plain rfl (by cases a <;> exact hr)
  | str => exact plain rfl (by cases a <;> exact hr)
  | nl q0 => exact plain rfl (by cases a <;> exact hr)
  | vs q0 =>
    cases a with
    | nil q => obtain ⟨rfl, rfl⟩ := hr; rw [show v = .slice none 0 0 from ha]; exact ⟨.leaf, ⟨rfl, Base.fz_emp _ _, _, _, _, rfl⟩, by simpa [L.bl] using hh, s, fun _ _ h => h⟩
    | emp => obtain ⟨rfl, rfl⟩ := hr; obtain ⟨a, rfl⟩ := ha; exact ⟨.leaf, ⟨rfl, Base.fz_emp _ _, _, _, _, rfl⟩, by simpa [L.bl] using hh, s, fun _ _ h => h⟩
    | bor t q x =>
      simp only [mvCell] at hr
      by_cases e : q.same q0 = true
      · rw [dif_pos e] at hr
        obtain ⟨rfl, rfl⟩ := hr
        obtain ⟨⟨l, hl, hb⟩, _⟩ := ha
        exact ⟨.leaf, ⟨rfl, ⟨l, castL_rel e hl, hb⟩, CellV.slice hl⟩, by simpa [L.bl] using hh, s, fun _ _ h => h⟩
      · rw [dif_neg e] at hr; exact hr.elim
    | _ => exact hr.elim
  | sl r =>
    cases a with
    | nil q =>
      obtain ⟨rfl, rfl⟩ := hr
      rw [show v = .slice none 0 0 from ha]
      exact ⟨_, nilV r none 0 rfl, by simpa [L.bl, Loc.bl, Lss.bl] using hh, s, fun _ _ h => h⟩
    | emp =>
      obtain ⟨rfl, rfl⟩ := hr
      obtain ⟨a, rfl⟩ := ha
      exact ⟨_, nilV r a 0 rfl, by simpa [L.bl, Loc.bl, Lss.bl] using hh, s, fun _ _ h => h⟩
    | ref id p view =>
      cases p with
      | cons x0 p =>
        simp only [mvCell] at hr
        obtain ⟨⟨q, x⟩, h1, hr1, hr2⟩ := (DH.has_andThen _ _ _ _ _).1 hr
        obtain ⟨rfl, r0, rows, ho, hn⟩ := navD_has hr1
        by_cases e : q.same r = true
        · rw [dif_pos e] at hr2
          rw [has_putD] at hr2
          obtain ⟨rfl, rfl⟩ := hr2
          cases view with
          | none =>
            obtain ⟨loc, n, hG, rfl⟩ := ha
            obtain ⟨l, kids, hg, hk, hc, hlen, hb, hsub⟩ := s.nav hG ho hn
            exact ⟨_, castL_rel e hc, hh.take s ho rfl hg (L.sub_sublist _ _ _ hsub), s.heap (del_sub h1 id), del_sub h1 id⟩
          | some ol =>
            obtain ⟨o, n'⟩ := ol
            obtain ⟨loc, n, hG, hv⟩ := ha
            obtain ⟨l, kids, hg, hk, hc, hlen, hb, hsub⟩ := s.nav hG ho hn
            subst hk
            obtain ⟨loc', hc', _, hlb⟩ := CellV.view (castL_rel e hc) hv
            refine ⟨_, hc', hh.take s ho rfl hg ((List.Sublist.append hlb (Lss.sublist ((List.take_sublist _ _).trans (List.drop_sublist _ _)))).trans (L.sub_sublist _ _ _ hsub)), s.heap (del_sub h1 id), del_sub h1 id⟩
        · rw [dif_neg e] at hr2; exact hr2.elim
      | nil =>
        simp only [mvCell] at hr
        rw [has_getD] at hr
        cases ho : getO h id with
        | none => rw [ho] at hr; exact hr.elim
        | some ob =>
          rw [ho] at hr
          cases ob with
          | box cs => exact hr.elim
          | robox cs => exact hr.elim
          | part root cols r rows lo hi => exact hr.elim
          | row q x =>
            by_cases e : q.same r = true
            · simp only [dif_pos e] at hr
              rw [has_putD] at hr
              obtain ⟨rfl, rfl⟩ := hr
              cases view with
              | none =>
                obtain ⟨loc, n, hG, rfl⟩ := ha
                obtain ⟨l, kids, hg, hk, hc, hlen, hb, hsub⟩ := s.nav hG ho rfl
                simp only [L.sub, Option.some.injEq] at hsub
                subst hsub
                exact ⟨_, castL_rel e hc, hh.take s ho rfl hg (List.Sublist.refl _), s.heap (del_sub h id), del_sub h id⟩
              | some ol =>
                obtain ⟨o, n'⟩ := ol
                obtain ⟨loc, n, hG, hv⟩ := ha
                obtain ⟨l, kids, hg, hk, hc, hlen, hb, hsub⟩ := s.nav hG ho rfl
                simp only [L.sub, Option.some.injEq] at hsub
                subst hsub
                subst hk
                obtain ⟨loc', hc', _, hlb⟩ := CellV.view (castL_rel e hc) hv
                refine ⟨_, hc', hh.take s ho rfl hg ?_, s.heap (del_sub h id), del_sub h id⟩
                simp only [GO.bl, L.bl]
                exact List.Sublist.append hlb (Lss.sublist ((List.take_sublist _ _).trans (List.drop_sublist _ _)))
            · simp only [dif_neg e] at hr; exact hr.elim
    | _ => exact hr.elim


/-! ### rows, tuples -/
/-- A row's cells as values. -/
def RowC (F : Fz) (w : World) (own : Bool) : (r : RT) → r.den → List L → List Value → Prop
  | .one c, d, ls, vs => ∃ l v, ls = [l] ∧ vs = [v] ∧ CellV F w own c d l v
  | .cons c r, d, ls, vs => ∃ l ls' v vs', ls = l :: ls' ∧ vs = v :: vs' ∧ CellV F w own c d.1 l v ∧ RowC F w own r d.2 ls' vs'
theorem RowC.length {F : Fz} {w : World} {own : Bool} : ∀ {r : RT} {d : r.den} {ls : List L} {vs : List Value}, RowC F w own r d ls vs → vs.length = r.size
  | .one c, d, ls, vs, h => by obtain ⟨l, v, rfl, rfl, _⟩ := h; rfl
  | .cons c r, d, ls, vs, h => by obtain ⟨l, ls', v, vs', rfl, rfl, _, h⟩ := h; simp [RT.size, RowC.length h]
theorem RowC.mem {F : Fz} {w : World} {own : Bool} : ∀ {r : RT} {d : r.den} {ls : List L} {vs : List Value} {b o : Nat}, RowC F w own r d ls vs → (∀ j v, vs[j]? = some v → w.cell? ⟨b, o + j, none⟩ = some v) → RowV F w own r d ls b o
  | .one c, d, ls, vs, b, o, h, hm => by obtain ⟨l, v, rfl, rfl, h⟩ := h; exact ⟨l, v, rfl, hm 0 v (by simp), h⟩
  | .cons c r, d, ls, vs, b, o, h, hm => by
    obtain ⟨l, ls', v, vs', rfl, rfl, h, hr⟩ := h
    exact ⟨l, ls', rfl, ⟨v, hm 0 v (by simp), h⟩, RowC.mem hr fun j u hu => by rw [show o + 1 + j = o + (j + 1) by omega]; exact hm (j + 1) u (by simpa using hu)⟩
theorem RowV.vals {F : Fz} {w : World} {own : Bool} : ∀ {r : RT} {d : r.den} {ls : List L} {b o : Nat}, RowV F w own r d ls b o → ∃ vs, RowC F w own r d ls vs ∧ ∀ j v, vs[j]? = some v → w.cell? ⟨b, o + j, none⟩ = some v
  | .one c, d, ls, b, o, h => by
    obtain ⟨l, v, rfl, hc, h⟩ := h
    refine ⟨[v], ⟨l, v, rfl, rfl, h⟩, fun j u hu => ?_⟩
    cases j with
    | zero => simp at hu; subst hu; exact hc
    | succ j => simp at hu
  | .cons c r, d, ls, b, o, h => by
    obtain ⟨l, ls', rfl, ⟨v, hc, h⟩, hr⟩ := h
    obtain ⟨vs, h1, h2⟩ := RowV.vals hr
    refine ⟨v :: vs, ⟨l, ls', v, vs, rfl, rfl, h, h1⟩, fun j u hu => ?_⟩
    cases j with
    | zero => simp at hu; subst hu; exact hc
    | succ j => rw [show o + (j + 1) = o + 1 + j by omega]; exact h2 j u (by simpa using hu)
theorem RowC.keep {F : Fz} {w w' : World} {own : Bool} : ∀ {r : RT} {d : r.den} {ls : List L} {vs : List Value}, RowC F w own r d ls vs → (∀ b ∈ Ls.bl ls, w'.heap[b]? = w.heap[b]?) → RowC F w' own r d ls vs
  | .one c, d, ls, vs, h, hb => by obtain ⟨l, v, rfl, rfl, h⟩ := h; exact ⟨l, v, rfl, rfl, h.keep _ _ _ _ fun b hm => hb b (by simp [Ls.bl]; exact hm)⟩
  | .cons c r, d, ls, vs, h, hb => by
    obtain ⟨l, ls', v, vs', rfl, rfl, h, hr⟩ := h
    exact ⟨l, ls', v, vs', rfl, rfl, h.keep _ _ _ _ fun b hm => hb b (by simp only [Ls.bl, List.mem_append]; exact .inl hm), hr.keep fun b hm => hb b (by simp only [Ls.bl, List.mem_append]; exact .inr hm)⟩

theorem mvRow_e0 {c : CT} : mvRow (.one c) [] = .fail := rfl
theorem mvRow_e1 {c : CT} {v : AV} : mvRow (.one c) [v] = mvCell c v := rfl
theorem mvRow_e2 {c : CT} {v u : AV} {vs : List AV} : mvRow (.one c) (v :: u :: vs) = .fail := rfl
theorem mvRow_e3 {c : CT} {r : RT} : mvRow (.cons c r) [] = .fail := rfl
theorem mvRow_e4 {c : CT} {r : RT} {v : AV} {vs : List AV} : mvRow (.cons c r) (v :: vs) = ((mvCell c v).andThen fun x => (mvRow r vs).andThen fun y => .ret (x, y)) := rfl
theorem VRelL.one {B : Base} {G : Gh} {a : AV} {vs : List Value} (h : VRelL B G [a] vs) : ∃ v, vs = [v] ∧ VRelS B G a v := by
  match vs, h with
  | [v], h => exact ⟨v, rfl, h.1⟩
theorem VRelL.cons {B : Base} {G : Gh} {a : AV} {as : List AV} {vs : List Value} (h : VRelL B G (a :: as) vs) : ∃ v vs', vs = v :: vs' ∧ VRelS B G a v ∧ VRelL B G as vs' := by
  match vs, h with
  | v :: vs, h => exact ⟨v, vs, rfl, h.1, h.2⟩
theorem VRelL.nil {B : Base} {G : Gh} {vs : List Value} (h : VRelL B G [] vs) : vs = [] := by
  match vs, h with
  | [], _ => rfl
theorem mvRow_sound {B : Base} {G : Gh} {w : World} : ∀ (r : RT) (as : List AV) (vs : List Value) (h : Heap) (bs : List Nat) (d : r.den) (h' : Heap), Sim B G h w → VRelL B G as vs → Held B G h w bs → (mvRow r as).Has h d h' →
    ∃ ls, RowC B.fz w true r d ls vs ∧ Held B G h' w (bs ++ Ls.bl ls) ∧ Sim B G h' w ∧ ∀ i o, getO h' i = some o → getO h i = some o
  | .one c => by
    intro as vs h bs d h' s hv hh hr
    match as, hv, hr with
    | [], hv, hr => rw [mvRow_e0] at hr; exact hr.elim
    | [a], hv, hr =>
      obtain ⟨v, rfl, hv1⟩ := hv.one
      rw [mvRow_e1] at hr
      obtain ⟨l, h1, h2, h3, h4⟩ := mvCell_sound s hv1 hh hr
      exact ⟨[l], ⟨l, v, rfl, rfl, h1⟩, by simpa [Ls.bl] using h2, h3, h4⟩
    | a :: b :: as, hv, hr => rw [mvRow_e2] at hr; exact hr.elim
  | .cons c r => by
    have ih := mvRow_sound (B := B) (G := G) (w := w) r
    intro as vs h bs d h' s hv hh hr
    match as, hv, hr with
    | [], hv, hr => rw [mvRow_e3] at hr; exact hr.elim
    | a :: as, hv, hr =>
      obtain ⟨v, vs, rfl, hv1, hv2⟩ := hv.cons
      rw [mvRow_e4] at hr
      obtain ⟨x, h1, hx, hr⟩ := (DH.has_andThen _ _ _ _ _).1 hr
      obtain ⟨y, h2, hy, hr⟩ := (DH.has_andThen _ _ _ _ _).1 hr
      obtain ⟨rfl, rfl⟩ := hr
      obtain ⟨l, a1, a2, a3, a4⟩ := mvCell_sound s hv1 hh hx
      obtain ⟨ls, b1, b2, b3, b4⟩ := ih as vs h1 _ y _ a3 hv2 a2 hy
      exact ⟨l :: ls, ⟨l, ls, v, vs, rfl, rfl, a1, b1⟩, by simpa [Ls.bl, List.append_assoc] using b2, b3, fun i o hi => a4 i o (b4 i o hi)⟩

/-- Cells as a tuple has them: which are owned, where they lie, what they are. -/
def TupV (F : Fz) (w : World) : (cs : List CT) → Tup cs → List Bool → List L → List Value → Prop
  | [], _, ms, ls, vs => ms = [] ∧ ls = [] ∧ vs = []
  | [c], x, ms, ls, vs => ∃ m l v, ms = [m] ∧ ls = [l] ∧ vs = [v] ∧ CellV F w m c x l v
  | c :: d :: cs, x, ms, ls, vs => ∃ m ms' l ls' v vs', ms = m :: ms' ∧ ls = l :: ls' ∧ vs = v :: vs' ∧ CellV F w m c x.1 l v ∧ TupV F w (d :: cs) x.2 ms' ls' vs'

end Go.Abs

namespace Go.Abs
open Go.RowKit
set_option linter.unusedSimpArgs false
set_option linter.unusedVariables false

/-! ### the world turns -/
/-- Old blocks stay, but for those of S. -/
structure Turn (w w' : World) (S : List Nat) : Prop where
  os : w'.os = w.os
  tape : w'.tape = w.tape
  output : w'.output = w.output
  size : w.heap.size ≤ w'.heap.size
  block : ∀ b, b < w.heap.size → b ∉ S → w'.heap[b]? = w.heap[b]?
theorem Turn.refl (w : World) : Turn w w [] := ⟨rfl, rfl, rfl, Nat.le_refl _, fun _ _ _ => rfl⟩
theorem Turn.mono {w w' : World} {S S' : List Nat} (h : Turn w w' S) (hs : ∀ b ∈ S, b ∈ S') : Turn w w' S' := ⟨h.os, h.tape, h.output, h.size, fun b hb hn => h.block b hb fun hm => hn (hs b hm)⟩
theorem Turn.trans {w w' w'' : World} {S : List Nat} (h : Turn w w' S) (h' : Turn w' w'' S) : Turn w w'' S :=
  ⟨h'.os.trans h.os, h'.tape.trans h.tape, h'.output.trans h.output, Nat.le_trans h.size h'.size, fun b hb hn => (h'.block b (Nat.lt_of_lt_of_le hb h.size) hn).trans (h.block b hb hn)⟩
theorem Turn.alloc (w : World) (o : Go.Obj) : Turn w (w.alloc o) [] := ⟨rfl, rfl, rfl, by simp, fun b hb _ => heap_alloc_old w o b hb⟩
theorem Turn.drew (w : World) : Turn w w.drew [] := ⟨rfl, rfl, rfl, Nat.le_refl _, fun _ _ _ => rfl⟩
theorem Turn.setRow (w : World) (g : Nat) (cur : Array Value) : Turn w (w.setRow g cur) [g] :=
  ⟨rfl, rfl, rfl, by simp [World.setRow], fun b _ hn => setRow_other w g b _ (by simpa using hn)⟩


theorem RowK.keep {F : Fz} {w w' : World} {cols : List Nat} : ∀ (r : RT) (d : r.den) (ls : List L) (j : Nat), RowK F w cols j r d ls → (∀ b ∈ Ls.blX cols j ls, w'.heap[b]? = w.heap[b]?) → RowK F w' cols j r d ls
  | .one c, d, ls, j, h, hb => by
    obtain ⟨l, rfl, hv⟩ := h
    exact ⟨l, rfl, fun hm => (hv hm).imp fun v hc => hc.keep _ _ _ _ fun b hx => hb b (by simp only [Ls.blX, hm, cond_false, List.append_nil]; exact hx)⟩
  | .cons c r, d, ls, j, h, hb => by
    obtain ⟨l, ls', rfl, hv, hr⟩ := h
    refine ⟨l, ls', rfl, fun hm => (hv hm).imp fun v hc => hc.keep _ _ _ _ fun b hx => hb b ?_, RowK.keep r d.2 ls' (j + 1) hr fun b hx => hb b ?_⟩
    · simp only [Ls.blX, hm, cond_false, List.mem_append]; exact .inl hx
    · simp only [Ls.blX, List.mem_append]; exact .inr hx
/-- Without columns that left, all blocks of a row are there. -/
theorem Ls.blX_nil : ∀ (ls : List L) (j : Nat), Ls.blX [] j ls = Ls.bl ls
  | [], j => rfl
  | l :: ls, j => by simp only [Ls.blX, Ls.bl, memN, cond_false, Ls.blX_nil ls (j + 1)]
theorem Lss.blP_in {cols : List Nat} {lo hi : Int} {kids : List (List L)} {i : Nat} (hi' : i < kids.length) (h1 : lo ≤ (i : Int)) (h2 : (i : Int) < hi) : ∀ b ∈ Ls.blX cols 0 (kids.getD i []), b ∈ Lss.blP cols lo hi 0 kids := fun b hb =>
  (Lss.blP_get kids 0 i _ (by rw [List.getD_eq_getElem?_getD, List.getElem?_eq_getElem hi']; rfl) (by rw [Nat.zero_add]; exact h1) (by rw [Nat.zero_add]; exact h2)).subset hb
/-- The root of a part is kept only while all columns are there. -/
theorem PartR.keep {F : Fz} {w w' : World} {root : Bool} {cols : List Nat} {r : RT} {rows : List r.den} {lo hi : Int} {loc : Loc} {kids : List (List L)} (h : PartR F w root cols r rows lo hi loc kids)
    (hb : ∀ b ∈ L.blP root cols lo hi (.sl loc kids), w'.heap[b]? = w.heap[b]?) : PartR F w' root cols r rows lo hi loc kids := by
  have hin : ∀ i : Nat, i < rows.length → lo ≤ (i : Int) → (i : Int) < hi → ∀ b ∈ Ls.blX cols 0 (kids.getD i []), w'.heap[b]? = w.heap[b]? := fun i h1 h2 h3 b hm =>
    hb b (by simp only [L.blP, List.mem_append]; exact .inr (Lss.blP_in (by rw [h.len]; exact h1) h2 h3 b hm))
  refine ⟨h.len, fun hr => ?_, fun i h1 h2 h3 => (h.rows i h1 h2 h3).keep _ _ _ _ (hin i h1 h2 h3)⟩
  subst hr
  obtain ⟨h1, h0, h2⟩ := h.top rfl
  have hloc : ∀ b ∈ loc.bl, w'.heap[b]? = w.heap[b]? := fun b hm => hb b (by simp only [L.blP, cond_true, List.mem_append]; exact .inl hm)
  subst h0
  refine ⟨h1.keep hloc, rfl, fun b off cap sz e i hi1 hi2 hi3 => ?_⟩
  subst e
  exact RowV.keep r _ _ b _ (h2 b off cap sz rfl i hi1 hi2 hi3) (hloc b (by simp [Loc.bl])) fun b' hm => hin i hi1 hi2 hi3 b' (by rw [Ls.blX_nil]; exact hm)

theorem ORel.turn {B : Base} {G G' : Gh} {w w' : World} {S : List Nat} (t : Turn w w' S) {id : Nat} {o : Obj} (x : ORel B G w id o) (hS : ∀ b ∈ S, ¬ B.safe b)
    (hb : ownd o = true → ∀ go, G id = some go → ∀ b ∈ obl o go, b < w.heap.size ∧ b ∉ S) (hsz : B.w0.heap.size ≤ w.heap.size)
    (hG : G' id = G id) (hv : ∀ cs vs, o = .box cs ∨ o = .robox cs → VRelL B G cs vs → VRelL B G' cs vs) : ORel B G' w' id o := by
  cases o with
  | box cs =>
    obtain ⟨b, vals, e, h1, h2, h3⟩ := x
    have := hb rfl _ h1 b (by simp [obl, GO.bl])
    exact ⟨b, vals, e, by rw [hG]; exact h1, by rw [t.block b this.1 this.2]; exact h2, hv _ _ (.inl rfl) h3⟩
  | robox cs =>
    obtain ⟨b, vs, h1, h2, h3, h4⟩ := x
    refine ⟨b, vs, by rw [hG]; exact h1, h2, fun j v hj => ?_, hv _ _ (.inr rfl) h4⟩
    rw [cell_same (t.block b (Nat.lt_of_lt_of_le h2.1 hsz) fun hm => hS b hm h2)]
    exact h3 j v hj
  | row r rows =>
    obtain ⟨l, v, h1, h2⟩ := x
    exact ⟨l, v, by rw [hG]; exact h1, h2.keep _ _ _ _ fun b hm => t.block b (hb rfl _ h1 b hm).1 (hb rfl _ h1 b hm).2⟩
  | part root cols r rows lo hi =>
    obtain ⟨loc, kids, h1, h2⟩ := x
    exact ⟨loc, kids, by rw [hG]; exact h1, h2.keep fun b hm => t.block b (hb rfl _ h1 b hm).1 (hb rfl _ h1 b hm).2⟩

/-- Blocks that no object and nobody else has may turn. -/
theorem Sim.turn {B : Base} {G : Gh} {h : Heap} {w w' : World} {S : List Nat} (s : Sim B G h w) (t : Turn w w' S) (hS : ∀ b ∈ S, ¬ B.safe b)
    (hb : ∀ id o go, getO h id = some o → ownd o = true → G id = some go → ∀ b ∈ obl o go, b ∉ S) : Sim B G h w' := by
  refine ⟨fun id o ho => ?_, s.nodup, fun id o go ho hw hg b hm => ?_, s.apart, t.os.trans s.os, t.tape.trans s.tape, t.output.trans s.output, Nat.le_trans s.size t.size, fun b hsb => ?_⟩
  · exact (s.obj id o ho).turn t hS (fun hw go hg b hm => ⟨(s.mine id o go ho hw hg b hm).1, hb id o go ho hw hg b hm⟩) s.size rfl fun _ _ _ h => h
  · exact ⟨Nat.lt_of_lt_of_le (s.mine id o go ho hw hg b hm).1 t.size, (s.mine id o go ho hw hg b hm).2⟩
  · rw [t.block b (Nat.lt_of_lt_of_le hsb.1 s.size) fun hm => hS b hm hsb]; exact s.safe b hsb
theorem Sim.grow {B : Base} {G : Gh} {h : Heap} {w w' : World} (s : Sim B G h w) (t : Turn w w' []) : Sim B G h w' :=
  s.turn t (fun _ hm => absurd hm List.not_mem_nil) fun _ _ _ _ _ _ _ _ => List.not_mem_nil
theorem Held.grow {B : Base} {G : Gh} {h : Heap} {w w' : World} {bs : List Nat} (x : Held B G h w bs) (t : w.heap.size ≤ w'.heap.size) : Held B G h w' bs :=
  ⟨x.nodup, fun b hb => ⟨Nat.lt_of_lt_of_le (x.mine b hb).1 t, (x.mine b hb).2⟩, x.apart⟩

/-- A new object out of what is in the hand. -/
theorem Sim.add {B : Base} {G : Gh} {h : Heap} {w : World} (s : Sim B G h w) {id : Nat} {o : Obj} {go : GO} (hn : G id = none) (ho : ORel B (G.set id go) w id o) (hw : ownd o = true) (hh : Held B G h w (obl o go)) :
    Sim B (G.set id go) (setO h id o) w := by
  have hle := Gh.le_set (G := G) (id := id) go hn
  have hne : ∀ j, j ≠ id → (G.set id go) j = G j := fun j hj => by unfold Gh.set; rw [if_neg fun e => hj e.symm]
  have hid : (G.set id go) id = some go := by unfold Gh.set; rw [if_pos rfl]
  have get : ∀ j x, getO (setO h id o) j = some x → (j = id ∧ x = o) ∨ (j ≠ id ∧ getO h j = some x) := by
    intro j x hx
    rw [getO_setO] at hx
    by_cases e : id = j
    · rw [if_pos e] at hx; exact .inl ⟨e.symm, by cases hx; rfl⟩
    · rw [if_neg e] at hx; exact .inr ⟨fun x => e x.symm, hx⟩
  refine ⟨fun j x hx => ?_, fun j x g hx hx' hg => ?_, fun j x g hx hx' hg b hm => ?_, fun i j x y g g' hij hx hy hx' hy' hg hg' b hm hm' => ?_, s.os, s.tape, s.output, s.size, s.safe⟩
  · rcases get j x hx with ⟨rfl, rfl⟩ | ⟨hj, hx⟩
    · exact ho
    · refine (s.obj j x hx).mono hle fun l hl => ?_
      rw [hne j hj]; exact hl
  · rcases get j x hx with ⟨rfl, rfl⟩ | ⟨hj, hx⟩
    · rw [hid] at hg; cases hg; exact hh.nodup
    · rw [hne j hj] at hg; exact s.nodup j x g hx hx' hg
  · rcases get j x hx with ⟨rfl, rfl⟩ | ⟨hj, hx⟩
    · rw [hid] at hg; cases hg; exact hh.mine b hm
    · rw [hne j hj] at hg; exact s.mine j x g hx hx' hg b hm
  · rcases get i x hx with ⟨rfl, rfl⟩ | ⟨hi, hx⟩
    · rw [hid] at hg; cases hg
      rcases get j y hy with ⟨rfl, rfl⟩ | ⟨hj, hy⟩
      · exact hij rfl
      · rw [hne j hj] at hg'; exact hh.apart j y g' hy hy' hg' b hm hm'
    · rw [hne i hi] at hg
      have hx2 := hx
      clear hx
      rcases get j y hy with ⟨rfl, rfl⟩ | ⟨hj, hy⟩
      · rw [hid] at hg'; cases hg'; exact hh.apart i x g hx2 hx' hg b hm' hm
      · rw [hne j hj] at hg'; exact s.apart i j x y g g' hij hx2 hy hx' hy' hg hg' b hm hm'

/-- An object is written: its blocks, and what was in the hand. -/
theorem Sim.upd {B : Base} {G G' : Gh} {h : Heap} {w w' : World} {S : List Nat} (s : Sim B G h w) {id : Nat} {o o' : Obj} {go go' : GO} (ho : getO h id = some o) (hw : ownd o = true) (hg : G id = some go)
    {bs : List Nat} (hh : Held B G h w bs) (t : Turn w w' S) (hS : ∀ b ∈ S, b ∈ obl o go)
    (hG : ∀ j, j ≠ id → G' j = G j) (hg' : G' id = some go') (hw' : ownd o' = true) (ho' : ORel B G' w' id o') (hnd : (obl o' go').Nodup) (hsub : ∀ b ∈ obl o' go', b ∈ obl o go ∨ b ∈ bs)
    (hv : ∀ j x cs vs, getO h j = some x → (x = .box cs ∨ x = .robox cs) → VRelL B G cs vs → VRelL B G' cs vs) : Sim B G' (setO h id o') w' := by
  have get : ∀ j x, getO (setO h id o') j = some x → (j = id ∧ x = o') ∨ (j ≠ id ∧ getO h j = some x) := by
    intro j x hx
    rw [getO_setO] at hx
    by_cases e : id = j
    · rw [if_pos e] at hx; exact .inl ⟨e.symm, by cases hx; rfl⟩
    · rw [if_neg e] at hx; exact .inr ⟨fun x => e x.symm, hx⟩
  have hSs : ∀ b ∈ S, ¬ B.safe b := fun b hb => (s.mine id o go ho hw hg b (hS b hb)).2
  refine ⟨fun j x hx => ?_, fun j x g hx hx' hgj => ?_, fun j x g hx hx' hgj b hm => ?_, fun i j x y g g' hij hx hy hx' hy' hgi hgj b hm hm' => ?_, t.os.trans s.os, t.tape.trans s.tape, t.output.trans s.output, Nat.le_trans s.size t.size, fun b hsb => ?_⟩
  · rcases get j x hx with ⟨rfl, rfl⟩ | ⟨hj, hx⟩
    · exact ho'
    · exact (s.obj j x hx).turn t hSs (fun hx' g hgj b hm => ⟨(s.mine j x g hx hx' hgj b hm).1, fun hb => s.apart j id x o g go hj hx ho hx' hw hgj hg b hm (hS b hb)⟩) s.size (hG j hj) fun cs vs e => hv j x cs vs hx e
  · rcases get j x hx with ⟨rfl, rfl⟩ | ⟨hj, hx⟩
    · rw [hg'] at hgj; cases hgj; exact hnd
    · rw [hG j hj] at hgj; exact s.nodup j x g hx hx' hgj
  · rcases get j x hx with ⟨rfl, rfl⟩ | ⟨hj, hx⟩
    · rw [hg'] at hgj; cases hgj
      rcases hsub b hm with hm | hm
      · exact ⟨Nat.lt_of_lt_of_le (s.mine j o go ho hw hg b hm).1 t.size, (s.mine j o go ho hw hg b hm).2⟩
      · exact ⟨Nat.lt_of_lt_of_le (hh.mine b hm).1 t.size, (hh.mine b hm).2⟩
    · rw [hG j hj] at hgj; exact ⟨Nat.lt_of_lt_of_le (s.mine j x g hx hx' hgj b hm).1 t.size, (s.mine j x g hx hx' hgj b hm).2⟩
  · rcases get i x hx with ⟨rfl, rfl⟩ | ⟨hi, hx⟩
    · rw [hg'] at hgi; cases hgi
      rcases get j y hy with ⟨rfl, rfl⟩ | ⟨hj, hy⟩
      · exact hij rfl
      · rw [hG j hj] at hgj
        rcases hsub b hm with hm | hm
        · exact s.apart i j o y go g' hij ho hy hw hy' hg hgj b hm hm'
        · exact hh.apart j y g' hy hy' hgj b hm hm'
    · rw [hG i hi] at hgi
      have hx2 := hx
      clear hx
      rcases get j y hy with ⟨rfl, rfl⟩ | ⟨hj, hy⟩
      · rw [hg'] at hgj; cases hgj
        rcases hsub b hm' with hm' | hm'
        · exact s.apart i j x o g go hij hx2 ho hx' hw hgi hg b hm hm'
        · exact hh.apart i x g hx2 hx' hgi b hm' hm
      · rw [hG j hj] at hgj; exact s.apart i j x y g g' hij hx2 hy hx' hy' hgi hgj b hm hm'
  · rw [t.block b (Nat.lt_of_lt_of_le hsb.1 s.size) fun hm => hSs b hm hsb]; exact s.safe b hsb

end Go.Abs

namespace Go.Abs
open Go.RowKit
set_option linter.unusedSimpArgs false
set_option linter.unusedVariables false

theorem toB_one {c : CT} {d : c.den} : RT.toB (.one c) d = [match c, d with | .int k, d => .int k d | .bool, d => .bool d | .str, d => .str d | .nl _, _ => .emp | .sl q, d => .bor none q d | .vs q, d => .bor none q d] := by cases c <;> rfl
theorem toB_cons {c : CT} {r : RT} {d : (RT.cons c r).den} : RT.toB (.cons c r) d = (match c, d.1 with | .int k, d => AV.int k d | .bool, d => .bool d | .str, d => .str d | .nl _, _ => .emp | .sl q, d => .bor none q d | .vs q, d => .bor none q d) :: RT.toB r d.2 := by cases c <;> rfl

/-- A borrowed row's cells. -/
theorem toB_sound {B : Base} {G : Gh} : ∀ (r : RT) (d : r.den) (ls : List L) (b o : Nat), RowV F0 B.w0 false r d ls b o → (∀ b ∈ Ls.bl ls, B.safe b) →
    ∃ vs, (∀ j v, vs[j]? = some v → B.w0.cell? ⟨b, o + j, none⟩ = some v) ∧ VRelL B G (RT.toB r d) vs
  | .one c, d, ls, b, o, h, hs => by
    obtain ⟨l, v, rfl, hc, h⟩ := h
    refine ⟨[v], fun j u hu => ?_, ?_⟩
    · cases j with
      | zero => simp at hu; subst hu; exact hc
      | succ j => simp at hu
    · cases c with
      | int k => exact ⟨h.2, trivial⟩
      | bool => exact ⟨h.2, trivial⟩
      | str => exact ⟨h.2, trivial⟩
      | nl q0 => exact ⟨h.2, trivial⟩
      | vs q0 => exact h.2.1.elim
      | sl q => exact ⟨⟨⟨l, h, fun b hb => hs b (by simp [Ls.bl]; exact hb)⟩, fun i e => by cases e⟩, trivial⟩
  | .cons c r, d, ls, b, o, h, hs => by
    obtain ⟨l, ls', rfl, ⟨v, hc, h⟩, hr⟩ := h
    obtain ⟨vs, h1, h2⟩ := toB_sound (B := B) (G := G) r d.2 ls' b (o + 1) hr fun b hb => hs b (by simp only [Ls.bl, List.mem_append]; exact .inr hb)
    refine ⟨v :: vs, fun j u hu => ?_, ?_⟩
    · cases j with
      | zero => simp at hu; subst hu; exact hc
      | succ j => rw [show o + (j + 1) = o + 1 + j by omega]; exact h1 j u (by simpa using hu)
    · cases c with
      | int k => exact ⟨h.2, h2⟩
      | bool => exact ⟨h.2, h2⟩
      | str => exact ⟨h.2, h2⟩
      | nl q0 => exact ⟨h.2, h2⟩
      | vs q0 => exact h.2.1.elim
      | sl q => exact ⟨⟨⟨l, h, fun b hb => hs b (by simp only [Ls.bl, List.mem_append]; exact .inl hb)⟩, fun i e => by cases e⟩, h2⟩

theorem L.at_append : ∀ (p : List (Int × Nat)) (l : L) (i : Int) (j : Nat) (loc : Loc) (kids : List (List L)) (ls : List L) (k : L), l.sub p = some (.sl loc kids) → 0 ≤ i → kids[i.toNat]? = some ls → ls[j]? = some k → l.at (p ++ [(i, j)]) = k.at []
  | [], l, i, j, loc, kids, ls, k, hs, hi, h1, h2 => by
    simp only [L.sub, Option.some.injEq] at hs
    subst hs
    simp only [List.nil_append, L.at, h1, h2, if_pos hi]
  | (i', j') :: p, l, i, j, loc, kids, ls, k, hs, hi, h1, h2 => by
    cases l with
    | leaf => simp [L.sub] at hs
    | sl loc' kids' =>
      simp only [L.sub] at hs
      cases e1 : kids'[i'.toNat]? with
      | none => simp [e1] at hs
      | some ls' =>
        simp only [e1] at hs
        cases e2 : ls'[j']? with
        | none => simp [e2] at hs
        | some k' =>
          simp only [e2] at hs
          by_cases e3 : 0 ≤ i'
          · rw [if_pos e3] at hs
            simp only [List.cons_append, L.at, e1, e2, if_pos e3]
            exact L.at_append p k' i j loc kids ls k hs hi h1 h2
          · rw [if_neg e3] at hs; cases hs

/-- An owned element's cells: its slices by their places. -/
theorem toO_sound {B : Base} {G : Gh} {w : World} {id : Nat} {path : List (Int × Nat)} {i : Int} : ∀ (r : RT) (d : r.den) (ls : List L) (b o j0 : Nat), RowV B.fz w true r d ls b o →
    (∀ j k, ls[j]? = some k → ∀ x, k.at [] = some x → G.at id (path ++ [(i, j0 + j)]) = some x) → ∃ vs, (∀ j v, vs[j]? = some v → w.cell? ⟨b, o + j, none⟩ = some v) ∧ VRelL B G (RT.toO id path i j0 r d) vs
  | .one c, d, ls, b, o, j0, h, hp => by
    obtain ⟨l, v, rfl, hc, h⟩ := h
    refine ⟨[v], fun j u hu => ?_, ?_⟩
    · cases j with
      | zero => simp at hu; subst hu; exact hc
      | succ j => simp at hu
    · cases c with
      | int k => exact ⟨h.2, trivial⟩
      | bool => exact ⟨h.2, trivial⟩
      | str => exact ⟨h.2, trivial⟩
      | nl q0 => exact ⟨h.2, trivial⟩
      | vs q0 => exact ⟨⟨h.2.1, fun i e => by cases e⟩, trivial⟩
      | sl q =>
        obtain ⟨loc, kids, rfl, hv, hk, _⟩ := h
        exact ⟨⟨loc, kids.length, hp 0 (.sl loc kids) (by simp) _ rfl, by rw [hk]; exact hv⟩, trivial⟩
  | .cons c r, d, ls, b, o, j0, h, hp => by
    obtain ⟨l, ls', rfl, ⟨v, hc, h⟩, hr⟩ := h
    obtain ⟨vs, h1, h2⟩ := toO_sound (B := B) (G := G) r d.2 ls' b (o + 1) (j0 + 1) hr fun j k hk x hx => by
      have := hp (j + 1) k (by simpa using hk) x hx
      rw [show j0 + 1 + j = j0 + (j + 1) by omega]; exact this
    refine ⟨v :: vs, fun j u hu => ?_, ?_⟩
    · cases j with
      | zero => simp at hu; subst hu; exact hc
      | succ j => rw [show o + (j + 1) = o + 1 + j by omega]; exact h1 j u (by simpa using hu)
    · cases c with
      | int k => exact ⟨h.2, h2⟩
      | bool => exact ⟨h.2, h2⟩
      | str => exact ⟨h.2, h2⟩
      | nl q0 => exact ⟨h.2, h2⟩
      | vs q0 => exact ⟨⟨h.2.1, fun i e => by cases e⟩, h2⟩
      | sl q =>
        obtain ⟨loc, kids, rfl, hv, hk, _⟩ := h
        exact ⟨⟨loc, kids.length, hp 0 (.sl loc kids) (by simp) _ rfl, by rw [hk]; exact hv⟩, h2⟩

theorem cells_seg {w : World} {b off n : Nat} {vs : List Value} (h : ∀ j v, vs[j]? = some v → w.cell? ⟨b, j, none⟩ = some v) : ∀ j v, ((vs.drop off).take n)[j]? = some v → w.cell? ⟨b, off + j, none⟩ = some v := by
  intro j v hj
  rw [List.getElem?_take] at hj
  by_cases e : j < n
  · rw [if_pos e, List.getElem?_drop] at hj; exact h _ v hj
  · rw [if_neg e] at hj; cases hj
theorem cells_seg' {w : World} {b o off n : Nat} {vs : List Value} (h : ∀ j v, vs[j]? = some v → w.cell? ⟨b, o + j, none⟩ = some v) : ∀ j v, ((vs.drop off).take n)[j]? = some v → w.cell? ⟨b, o + off + j, none⟩ = some v := by
  intro j v hj
  rw [List.getElem?_take] at hj
  by_cases e : j < n
  · rw [if_pos e, List.getElem?_drop] at hj
    rw [Nat.add_assoc]; exact h _ v hj
  · rw [if_neg e] at hj; cases hj

theorem loadC_sound {B : Base} {G : Gh} {h : Heap} {w : World} (s : Sim B G h w) {n : Nat} {a : AV} {v : Value} (ha : VRelS B G a v) {cs : List AV} {h' : Heap} (hl : (loadC n a).Has h cs h') :
    h' = h ∧ ∃ b off vs, v = .pointer (some ⟨b, off, none⟩) ∧ (∀ j u, vs[j]? = some u → w.cell? ⟨b, off + j, none⟩ = some u) ∧ VRelL B G cs vs := by
  cases a with
  | ptr id off =>
    obtain ⟨b, hg, rfl⟩ := ha
    simp only [loadC] at hl
    rw [has_getD] at hl
    cases ho : getO h id with
    | none => rw [ho] at hl; exact hl.elim
    | some o =>
      rw [ho] at hl
      cases o with
      | row r rows => exact hl.elim
      | part root cols r rows lo hi => exact hl.elim
      | box xs =>
        simp only at hl
        cases e : Nat.ble (off + n) xs.length with
        | false => rw [e] at hl; exact hl.elim
        | true =>
          rw [e] at hl
          obtain ⟨rfl, rfl⟩ := hl
          obtain ⟨b', vals, ty, hg', hb, hv⟩ := s.obj id _ ho
          rw [hg] at hg'
          cases hg'
          refine ⟨rfl, b, off, _, rfl, cells_seg (vs := vals.toList) (fun j u hu => ?_), (hv.drop off).take n⟩
          simp only [World.cell?, hb]
          simpa using hu
      | robox xs =>
        simp only at hl
        cases e : Nat.ble (off + n) xs.length with
        | false => rw [e] at hl; exact hl.elim
        | true =>
          rw [e] at hl
          obtain ⟨rfl, rfl⟩ := hl
          obtain ⟨b', vs, hg', hb, hc, hv⟩ := s.obj id _ ho
          rw [hg] at hg'
          cases hg'
          exact ⟨rfl, b, off, _, rfl, cells_seg hc, (hv.drop off).take n⟩
  | eptr id p i c =>
    obtain ⟨b, off, cap, sz, m, hG, h0, hi, rfl⟩ := ha
    simp only [loadC] at hl
    obtain ⟨x, h1, hn, hl⟩ := (DH.has_andThen _ _ _ _ _).1 hl
    obtain ⟨rfl, r0, rows0, ho, hnav⟩ := navD_has hn
    obtain ⟨q, rs⟩ := x
    obtain ⟨rfl, rfl⟩ := hl
    obtain ⟨l, kids, hg, hk, hcell, hlen, hb, hsub⟩ := s.nav hG ho hnav
    obtain ⟨loc, kids', e, hv, hkk, hloc, hr⟩ := hcell
    cases e
    obtain ⟨rfl, hcap, how⟩ := hloc
    have hrow := hr b off cap q.size rfl i.toNat (by omega)
    have hks : kids[i.toNat]? = some (kids.getD i.toNat []) := by rw [List.getD_eq_getElem?_getD, List.getElem?_eq_getElem (by omega)]; rfl
    obtain ⟨vs, h2, h3⟩ := toO_sound (B := B) (G := G) (id := id) (path := p) (i := i) q _ _ b _ 0 hrow fun j k hj x hx => by
      rw [Nat.zero_add]
      unfold Gh.at
      rw [hg]
      show l.at _ = _
      rw [L.at_append p l i j _ _ _ k hsub h0 hks hj]
      exact hx
    refine ⟨rfl, b, off + i.toNat * q.size + c, _, rfl, cells_seg' h2, (h3.drop c).take n⟩
  | bptr r row c =>
    obtain ⟨b, o, ls, h1, h2, h3, rfl⟩ := ha
    obtain ⟨rfl, rfl⟩ := hl
    obtain ⟨vs, h4, h5⟩ := toB_sound (B := B) (G := G) r row ls b o h1 h3
    refine ⟨rfl, b, o + c, _, rfl, cells_seg' (fun j u hu => ?_), (h5.drop c).take n⟩
    rw [cell_same (s.safe b h2)]
    exact h4 j u hu
  | _ => exact hl.elim

end Go.Abs

namespace Go.Abs
open Go.RowKit
set_option linter.unusedSimpArgs false
set_option linter.unusedVariables false

/-- The cells from c on are others. -/
def ovw (us : List Value) (c : Nat) (vs : List Value) : List Value := us.take c ++ vs ++ us.drop (c + vs.length)

theorem wrCells_e1 {self : Nat} {path : List (Int × Nat)} {i : Int} {j : Nat} {c : CT} {d : (RT.one c).den} {n : Nat} {vs : List AV} : wrCells self path i j (.one c) d n vs = wrOne self path i j c d n vs := rfl
theorem wrCells_e2 {self : Nat} {path : List (Int × Nat)} {i : Int} {j : Nat} {c : CT} {r : RT} {d : (RT.cons c r).den} {n : Nat} {vs : List AV} :
    wrCells self path i j (.cons c r) d n vs = wrCons self path i j c r d (fun n vs => wrCells self path i (j + 1) r d.2 n vs) n vs := rfl

theorem wrCell_sound {B : Base} {G : Gh} {h : Heap} {w : World} (s : Sim B G h w) {self : Nat} {path : List (Int × Nat)} {i : Int} {j : Nat} {c : CT} {d : c.den} {l : L} {u : Value} (hc : CellV B.fz w true c d l u)
    (hp : path = [] → ∀ x, l.at [] = some x → G.at self [(i, j)] = some x) {a : AV} {v : Value} (ha : VRelS B G a v) {bs : List Nat} (hh : Held B G h w bs) {res : c.den × List Nat} {h' : Heap} (hr : (wrCell self path i j c d a).Has h res h') :
    ∃ l' bn, CellV B.fz w true c res.1 l' v ∧ Held B G h' w (bs ++ bn) ∧ Sim B G h' w ∧ (∀ i o, getO h' i = some o → getO h i = some o) ∧ (∀ b, l'.bl.count b ≤ l.bl.count b + bn.count b) ∧ (j ∉ res.2 → l' = l) := by
  unfold wrCell at hr
  cases hs : (bif c.flat then none else selfAt self path j a) with
  | some i' =>
    rw [hs] at hr
    simp only [DH.Has] at hr
    have hf : c.flat = false := by
      cases hf : c.flat with
      | false => rfl
      | true => rw [hf] at hs; cases hs
    rw [hf, cond_false] at hs
    rcases hr with ⟨hi, rfl, rfl⟩ | ⟨_, hr⟩
    · have hi : i = i' := of_decide_eq_true hi
      subst hi
      refine ⟨l, [], ?_, by simpa using hh, s, fun _ _ h => h, fun b => by simp, fun _ => rfl⟩
      unfold selfAt at hs
      split at hs
      · rename_i id i2 j2
        cases e : (Nat.beq id self && (Nat.beq j2 j && path.isEmpty)) with
        | false => rw [e] at hs; cases hs
        | true =>
          rw [e] at hs
          simp only [cond_true, Option.some.injEq] at hs
          subst hs
          simp only [Bool.and_eq_true, beq_iff, List.isEmpty_iff] at e
          obtain ⟨rfl, rfl, rfl⟩ := e
          obtain ⟨loc, n, hG, rfl⟩ := ha
          cases c with
          | sl q =>
            obtain ⟨loc', kids, rfl, hv, hk, hx⟩ := hc
            have := hp rfl (loc', kids.length) rfl
            rw [hG] at this
            simp only [Option.some.injEq, Prod.mk.injEq] at this
            obtain ⟨rfl, rfl⟩ := this
            exact ⟨loc, kids, rfl, by rw [hk], hk, hx⟩
          | int k => cases hf
          | bool => cases hf
          | str => cases hf
          | nl q0 => cases hf
          | vs q0 => cases hf
      · cases hs
    · exact hr.elim
  | none =>
    rw [hs] at hr
    obtain ⟨x, h1, hx, hr⟩ := (DH.has_andThen _ _ _ _ _).1 hr
    obtain ⟨rfl, rfl⟩ := hr
    obtain ⟨l', h2, h3, h4, h5⟩ := mvCell_sound s ha hh hx
    refine ⟨l', l'.bl, h2, h3, h4, h5, fun b => by omega, fun hf => ?_⟩
    have hf : c.flat = true := by
      cases hc' : c.flat with
      | true => rfl
      | false => rw [hc'] at hf; exact absurd (List.mem_singleton.2 rfl) hf
    rw [h2.flat_bl hf, hc.flat_bl hf]

theorem ovw_nil (us : List Value) (c : Nat) : ovw us c [] = us := by simp [ovw]
theorem ovw_cons0 (u v : Value) (us vs : List Value) : ovw (u :: us) 0 (v :: vs) = v :: ovw us 0 vs := by simp [ovw, Nat.add_comm]
theorem ovw_succ (u : Value) (us vs : List Value) (c : Nat) : ovw (u :: us) (c + 1) vs = u :: ovw us c vs := by simp [ovw, Nat.add_right_comm]

theorem wrCells_sound {B : Base} {G : Gh} {w : World} {self : Nat} {path : List (Int × Nat)} {i : Int} : ∀ (r : RT) (j : Nat) (d : r.den) (ls : List L) (us : List Value) (c : Nat) (as : List AV) (vs : List Value) (h : Heap) (bs : List Nat) (res : r.den × List Nat) (h' : Heap),
    Sim B G h w → RowC B.fz w true r d ls us → (path = [] → ∀ k l, ls[k]? = some l → ∀ x, l.at [] = some x → G.at self [(i, j + k)] = some x) → VRelL B G as vs → Held B G h w bs → (wrCells self path i j r d c as).Has h res h' →
    ∃ ls' bn, RowC B.fz w true r res.1 ls' (ovw us c vs) ∧ Held B G h' w (bs ++ bn) ∧ Sim B G h' w ∧ (∀ i o, getO h' i = some o → getO h i = some o) ∧ (∀ b, (Ls.bl ls').count b ≤ (Ls.bl ls).count b + bn.count b) ∧ ((∀ k, j + k ∉ res.2 → ls'[k]? = ls[k]?) ∧ ls'.length = ls.length) ∧ (as ≠ [] → c + vs.length ≤ r.size)
  | .one c0, j, d, ls, us, c, as, vs, h, bs, res, h', s, hrow, hp, hv, hh, hr => by
    rw [wrCells_e1] at hr
    have hrow0 := hrow
    obtain ⟨l, u, rfl, rfl, hc⟩ := hrow
    match as, hv, c, hr with
    | [], hv, c, hr =>
      have := hv.nil
      subst this
      have hr : (DH.ret (d, ([] : List Nat))).Has h res h' := by cases c <;> exact hr
      obtain ⟨rfl, rfl⟩ := hr
      exact ⟨[l], [], by rw [ovw_nil]; exact hrow0, by simpa using hh, s, fun _ _ h => h, fun b => by simp, ⟨fun _ _ => rfl, rfl⟩, fun e => absurd rfl e⟩
    | [a], hv, 0, hr =>
      obtain ⟨v, rfl, hv1⟩ := hv.one
      obtain ⟨l', bn, h1, h2, h3, h4, h5, h6⟩ := wrCell_sound s hc (fun e x hx => by simpa using hp e 0 l (by simp) x hx) hv1 hh hr
      exact ⟨[l'], bn, ⟨l', v, rfl, by simp [ovw], h1⟩, h2, h3, h4, fun b => by simpa [Ls.bl] using h5 b, ⟨fun k hk => by cases k with | zero => rw [h6 (by simpa using hk)] | succ k => rfl, rfl⟩, fun _ => by simp [RT.size]⟩
    | [a], hv, c + 1, hr => exact hr.elim
    | a :: a' :: as, hv, 0, hr => exact hr.elim
    | a :: a' :: as, hv, c + 1, hr => exact hr.elim
  | .cons c0 r, j, d, ls, us, c, as, vs, h, bs, res, h', s, hrow, hp, hv, hh, hr => by
    have ih := wrCells_sound (B := B) (G := G) (w := w) (self := self) (path := path) (i := i) r (j + 1)
    rw [wrCells_e2] at hr
    have hrow0 := hrow
    obtain ⟨l, ls', u, us', rfl, rfl, hc, hrs⟩ := hrow
    match as, hv, c, hr with
    | [], hv, c, hr =>
      have := hv.nil
      subst this
      have hr : (DH.ret (d, ([] : List Nat))).Has h res h' := by cases c <;> exact hr
      obtain ⟨rfl, rfl⟩ := hr
      exact ⟨l :: ls', [], by rw [ovw_nil]; exact hrow0, by simpa using hh, s, fun _ _ h => h, fun b => by simp, ⟨fun _ _ => rfl, rfl⟩, fun e => absurd rfl e⟩
    | a :: as, hv, c + 1, hr =>
      obtain ⟨y, h1, hy, hr⟩ := (DH.has_andThen _ _ _ _ _).1 hr
      obtain ⟨rfl, rfl⟩ := hr
      obtain ⟨ls2, bn, b1, b2, b3, b4, b5, b6, b7⟩ := ih d.2 ls' us' c (a :: as) vs h bs y h1 s hrs (fun e k l hk x hx => by
        have := hp e (k + 1) l (by simpa using hk) x hx
        rw [show j + 1 + k = j + (k + 1) by omega]; exact this) hv hh hy
      exact ⟨l :: ls2, bn, ⟨l, ls2, u, _, rfl, by rw [ovw_succ], hc, b1⟩, b2, b3, b4, fun b => by
        have := b5 b
        simp only [Ls.bl, List.count_append]; omega, ⟨fun k hk => by cases k with | zero => rfl | succ k => simp only [List.getElem?_cons_succ]; exact b6.1 k (by rw [show j + 1 + k = j + (k + 1) by omega]; exact hk), by simp [b6.2]⟩, fun _ => by have := b7 (by simp); simp only [RT.size]; omega⟩
    | a :: as, hv, 0, hr =>
      obtain ⟨v, vs', rfl, hv1, hv2⟩ := hv.cons
      obtain ⟨x, h1, hx, hr⟩ := (DH.has_andThen _ _ _ _ _).1 hr
      obtain ⟨y, h2, hy, hr⟩ := (DH.has_andThen _ _ _ _ _).1 hr
      obtain ⟨rfl, rfl⟩ := hr
      obtain ⟨l2, bn, a1, a2, a3, a4, a5, a6⟩ := wrCell_sound s hc (fun e x hx => by simpa using hp e 0 l (by simp) x hx) hv1 hh hx
      obtain ⟨ls2, bn2, b1, b2, b3, b4, b5, b6, b7⟩ := ih d.2 ls' us' 0 as vs' h1 _ y h2 a3 hrs (fun e k l hk x hx => by
        have := hp e (k + 1) l (by simpa using hk) x hx
        rw [show j + 1 + k = j + (k + 1) by omega]; exact this) hv2 a2 hy
      refine ⟨l2 :: ls2, bn ++ bn2, ⟨l2, ls2, v, _, rfl, by rw [ovw_cons0], a1, b1⟩, by rw [← List.append_assoc]; exact b2, b3, fun i o hi => a4 i o (b4 i o hi), fun b => ?_, ⟨fun k hk => ?_, by simp [b6.2]⟩, fun _ => ?_⟩
      · have h1 := a5 b
        have h2 := b5 b
        simp only [Ls.bl, List.count_append]
        omega
      · simp only [List.mem_append, not_or] at hk
        cases k with
        | zero => rw [a6 (by simpa using hk.1)]; rfl
        | succ k => simp only [List.getElem?_cons_succ]; exact b6.1 k (by rw [show j + 1 + k = j + (k + 1) by omega]; exact hk.2)
      · cases as with
        | nil => have := hv2.nil; subst this; simp [RT.size]
        | cons a2 as => have := b7 (by simp); simp only [RT.size, List.length_cons]; omega

/-! ### a tree with one element turned -/
def L.put (l : L) : List (Int × Nat) → Nat → List L → L
  | [], i, ls => match l with
    | .sl loc kids => .sl loc (kids.set i ls)
    | .leaf => .leaf
  | (i1, j1) :: p, i, ls => match l with
    | .sl loc kids => match kids[i1.toNat]? with
      | some ks => match ks[j1]? with
        | some k => .sl loc (kids.set i1.toNat (ks.set j1 (k.put p i ls)))
        | none => .leaf
      | none => .leaf
    | .leaf => .leaf

theorem Lss.count_set : ∀ (kids : List (List L)) (i : Nat) (ls old : List L) (b : Nat), kids[i]? = some old → (Lss.bl (kids.set i ls)).count b + (Ls.bl old).count b = (Lss.bl kids).count b + (Ls.bl ls).count b
  | [], i, ls, old, b, h => by simp at h
  | k :: ks, 0, ls, old, b, h => by simp at h; subst h; simp only [List.set_cons_zero, Lss.bl, List.count_append]; omega
  | k :: ks, i + 1, ls, old, b, h => by
    have := Lss.count_set ks i ls old b (by simpa using h)
    simp only [List.set_cons_succ, Lss.bl, List.count_append]; omega
theorem Ls.count_set : ∀ (ls : List L) (j : Nat) (k old : L) (b : Nat), ls[j]? = some old → (Ls.bl (ls.set j k)).count b + old.bl.count b = (Ls.bl ls).count b + k.bl.count b
  | [], j, k, old, b, h => by simp at h
  | l :: ls, 0, k, old, b, h => by simp at h; subst h; simp only [List.set_cons_zero, Ls.bl, List.count_append]; omega
  | l :: ls, j + 1, k, old, b, h => by
    have := Ls.count_set ls j k old b (by simpa using h)
    simp only [List.set_cons_succ, Ls.bl, List.count_append]; omega
theorem L.count_put : ∀ (p : List (Int × Nat)) (l : L) (loc : Loc) (kids : List (List L)) (i : Nat) (ls old : List L) (b : Nat), l.sub p = some (.sl loc kids) → kids[i]? = some old →
    (l.put p i ls).bl.count b + (Ls.bl old).count b = l.bl.count b + (Ls.bl ls).count b
  | [], l, loc, kids, i, ls, old, b, hs, ho => by
    simp only [L.sub, Option.some.injEq] at hs
    subst hs
    have := Lss.count_set kids i ls old b ho
    simp only [L.put, L.bl, List.count_append]; omega
  | (i1, j1) :: p, l, loc, kids, i, ls, old, b, hs, ho => by
    cases l with
    | leaf => simp [L.sub] at hs
    | sl loc' kids' =>
      simp only [L.sub] at hs
      cases e1 : kids'[i1.toNat]? with
      | none => simp [e1] at hs
      | some ks =>
        simp only [e1] at hs
        cases e2 : ks[j1]? with
        | none => simp [e2] at hs
        | some k =>
          simp only [e2] at hs
          by_cases e3 : 0 ≤ i1
          · rw [if_pos e3] at hs
            have h1 := L.count_put p k loc kids i ls old b hs ho
            have h2 := Ls.count_set ks j1 (k.put p i ls) k b e2
            have h3 := Lss.count_set kids' i1.toNat (ks.set j1 (k.put p i ls)) ks b e1
            simp only [L.put, e1, e2, L.bl, List.count_append]; omega
          · rw [if_neg e3] at hs; cases hs
theorem set_same {α : Type} : ∀ (l : List α) (i : Nat) (x : α), l[i]? = some x → l.set i x = l
  | [], i, x, h => by simp at h
  | a :: l, 0, x, h => by simp at h; subst h; rfl
  | a :: l, i + 1, x, h => by simp only [List.set_cons_succ]; rw [set_same l i x (by simpa using h)]
theorem L.put_same : ∀ (p : List (Int × Nat)) (l : L) (loc : Loc) (kids : List (List L)) (i : Nat) (ls : List L), l.sub p = some (.sl loc kids) → kids[i]? = some ls → l.put p i ls = l
  | [], l, loc, kids, i, ls, hs, ho => by
    simp only [L.sub, Option.some.injEq] at hs
    subst hs
    simp only [L.put, set_same kids i ls ho]
  | (i1, j1) :: p, l, loc, kids, i, ls, hs, ho => by
    cases l with
    | leaf => simp [L.sub] at hs
    | sl loc' kids' =>
      simp only [L.sub] at hs
      cases e1 : kids'[i1.toNat]? with
      | none => simp [e1] at hs
      | some ks =>
        simp only [e1] at hs
        cases e2 : ks[j1]? with
        | none => simp [e2] at hs
        | some k =>
          simp only [e2] at hs
          by_cases e3 : 0 ≤ i1
          · rw [if_pos e3] at hs
            simp only [L.put, e1, e2, L.put_same p k loc kids i ls hs ho, set_same ks j1 k e2, set_same kids' _ ks e1]
          · rw [if_neg e3] at hs; cases hs
theorem L.put_top (l : L) (p : List (Int × Nat)) (i : Nat) (ls : List L) (loc : Loc) (kids : List (List L)) (h : l.sub p = some (.sl loc kids)) : (l.put p i ls).at [] = l.at [] := by
  cases p with
  | nil =>
    simp only [L.sub, Option.some.injEq] at h
    subst h
    simp [L.put, L.at]
  | cons x p =>
    obtain ⟨i1, j1⟩ := x
    cases l with
    | leaf => simp [L.sub] at h
    | sl loc' kids' =>
      simp only [L.sub] at h
      cases e1 : kids'[i1.toNat]? with
      | none => simp [e1] at h
      | some ks =>
        simp only [e1] at h
        cases e2 : ks[j1]? with
        | none => simp [e2] at h
        | some k => simp [L.put, e1, e2, L.at]

/-- What stays of a tree's places when an element's slices are others: all that does not lie behind a turned column. -/
theorem L.put_at : ∀ (p : List (Int × Nat)) (l : L) (loc : Loc) (kids : List (List L)) (i : Nat) (ls old : List L) (js : List Nat), l.sub p = some (.sl loc kids) → kids[i]? = some old → (∀ k, k ∉ js → ls[k]? = old[k]?) →
    ∀ q : List (Int × Nat), (∀ j ∈ js, preC (p.map (·.2) ++ [j]) q = false) → (l.put p i ls).at q = l.at q
  | [], l, loc, kids, i, ls, old, js, hs, ho, hk, q, hq => by
    simp only [L.sub, Option.some.injEq] at hs
    subst hs
    cases q with
    | nil => simp [L.put, L.at]
    | cons x q =>
      obtain ⟨i2, j2⟩ := x
      simp only [L.put, L.at]
      by_cases e : i = i2.toNat
      · subst e
        have hlt := (List.getElem?_eq_some_iff.1 ho).1
        rw [List.getElem?_set_self hlt, ho]
        simp only
        have hj : j2 ∉ js := fun hm => by
          have := hq j2 hm
          simp [preC] at this
        rw [hk j2 hj]
      · rw [List.getElem?_set_ne e]
  | (i1, j1) :: p, l, loc, kids, i, ls, old, js, hs, ho, hk, q, hq => by
    cases l with
    | leaf => simp [L.sub] at hs
    | sl loc' kids' =>
      simp only [L.sub] at hs
      cases e1 : kids'[i1.toNat]? with
      | none => simp [e1] at hs
      | some ks =>
        simp only [e1] at hs
        cases e2 : ks[j1]? with
        | none => simp [e2] at hs
        | some k =>
          simp only [e2] at hs
          by_cases e3 : 0 ≤ i1
          · rw [if_pos e3] at hs
            simp only [L.put, e1, e2]
            cases q with
            | nil => simp [L.at]
            | cons x q =>
              obtain ⟨i2, j2⟩ := x
              simp only [L.at]
              by_cases e : i1.toNat = i2.toNat
              · have hlt := (List.getElem?_eq_some_iff.1 e1).1
                rw [← e, List.getElem?_set_self hlt, e1]
                simp only
                by_cases ej : j1 = j2
                · subst ej
                  have hlt2 := (List.getElem?_eq_some_iff.1 e2).1
                  rw [List.getElem?_set_self hlt2, e2]
                  simp only
                  rw [L.put_at p k loc kids i ls old js hs ho hk q fun j hj => by
                    have := hq j hj
                    simp only [List.map_cons, List.cons_append, preC, Nat.beq_refl, Bool.true_and] at this
                    exact this]
                · rw [List.getElem?_set_ne ej]
              · rw [List.getElem?_set_ne e]
          · rw [if_neg e3] at hs; cases hs

end Go.Abs

namespace Go.Abs
open Go.RowKit
set_option linter.unusedSimpArgs false
set_option linter.unusedVariables false

theorem L.sub_bl : ∀ (p : List (Int × Nat)) (l k : L), l.sub p = some k → ∀ b ∈ k.bl, b ∈ l.bl
  | [], l, k, h => by simp only [L.sub, Option.some.injEq] at h; subst h; exact fun _ h => h
  | (i1, j1) :: p, l, k, h => by
    cases l with
    | leaf => simp [L.sub] at h
    | sl loc kids =>
      simp only [L.sub] at h
      cases e1 : kids[i1.toNat]? with
      | none => simp [e1] at h
      | some ks =>
        simp only [e1] at h
        cases e2 : ks[j1]? with
        | none => simp [e2] at h
        | some k1 =>
          simp only [e2] at h
          by_cases e3 : 0 ≤ i1
          · rw [if_pos e3] at h
            intro b hb
            simp only [L.bl, List.mem_append]
            exact .inr (Lss.mem_of_get kids _ ks e1 b (Ls.mem_of_get ks j1 k1 e2 b (L.sub_bl p k1 k h b hb)))
          · rw [if_neg e3] at h; cases h
theorem Lss.two : ∀ (kids : List (List L)) (i j : Nat) (x y : List L) (b : Nat), i ≠ j → kids[i]? = some x → kids[j]? = some y → (Ls.bl x).count b + (Ls.bl y).count b ≤ (Lss.bl kids).count b
  | [], i, j, x, y, b, _, h, _ => by simp at h
  | k :: ks, 0, 0, x, y, b, hn, _, _ => absurd rfl hn
  | k :: ks, 0, j + 1, x, y, b, _, h1, h2 => by
    simp at h1
    subst h1
    have : (Ls.bl y).count b ≤ (Lss.bl ks).count b := Lss.one ks j y b (by simpa using h2)
    simp only [Lss.bl, List.count_append]; omega
  | k :: ks, i + 1, 0, x, y, b, _, h1, h2 => by
    simp at h2
    subst h2
    have : (Ls.bl x).count b ≤ (Lss.bl ks).count b := Lss.one ks i x b (by simpa using h1)
    simp only [Lss.bl, List.count_append]; omega
  | k :: ks, i + 1, j + 1, x, y, b, hn, h1, h2 => by
    have := Lss.two ks i j x y b (by omega) (by simpa using h1) (by simpa using h2)
    simp only [Lss.bl, List.count_append]; omega
  where
  Lss.one : ∀ (kids : List (List L)) (i : Nat) (x : List L) (b : Nat), kids[i]? = some x → (Ls.bl x).count b ≤ (Lss.bl kids).count b
    | [], i, x, b, h => by simp at h
    | k :: ks, 0, x, b, h => by simp at h; subst h; simp only [Lss.bl, List.count_append]; omega
    | k :: ks, i + 1, x, b, h => by have := Lss.one ks i x b (by simpa using h); simp only [Lss.bl, List.count_append]; omega
theorem Ls.one : ∀ (ls : List L) (i : Nat) (x : L) (b : Nat), ls[i]? = some x → x.bl.count b ≤ (Ls.bl ls).count b
  | [], i, x, b, h => by simp at h
  | k :: ks, 0, x, b, h => by simp at h; subst h; simp only [Ls.bl, List.count_append]; omega
  | k :: ks, i + 1, x, b, h => by have := Ls.one ks i x b (by simpa using h); simp only [Ls.bl, List.count_append]; omega
theorem Ls.two : ∀ (ls : List L) (i j : Nat) (x y : L) (b : Nat), i ≠ j → ls[i]? = some x → ls[j]? = some y → x.bl.count b + y.bl.count b ≤ (Ls.bl ls).count b
  | [], i, j, x, y, b, _, h, _ => by simp at h
  | k :: ks, 0, 0, x, y, b, hn, _, _ => absurd rfl hn
  | k :: ks, 0, j + 1, x, y, b, _, h1, h2 => by
    simp at h1; subst h1
    have := Ls.one ks j y b (by simpa using h2)
    simp only [Ls.bl, List.count_append]; omega
  | k :: ks, i + 1, 0, x, y, b, _, h1, h2 => by
    simp at h2; subst h2
    have := Ls.one ks i x b (by simpa using h1)
    simp only [Ls.bl, List.count_append]; omega
  | k :: ks, i + 1, j + 1, x, y, b, hn, h1, h2 => by
    have := Ls.two ks i j x y b (by omega) (by simpa using h1) (by simpa using h2)
    simp only [Ls.bl, List.count_append]; omega
theorem count_pos {l : List Nat} {b : Nat} (h : b ∈ l) : 1 ≤ l.count b := List.one_le_count_iff.2 h
theorem not_mem_of_count {l : List Nat} {b : Nat} (h : l.count b = 0) : b ∉ l := List.count_eq_zero.1 h

theorem slSet_e1 {q s : RT} {d : (RT.one (.sl q)).den} {x : List s.den} : RT.slSet (.one (.sl q)) d 0 s x = if h : s.same q = true then some (castL h x) else none := rfl
theorem slSet_e2 {q s r : RT} {d : (RT.cons (.sl q) r).den} {x : List s.den} : RT.slSet (.cons (.sl q) r) d 0 s x = if h : s.same q = true then some (castL h x, d.2) else none := rfl
theorem slSet_e3 {s r : RT} {c : CT} {d : (RT.cons c r).den} {j : Nat} {x : List s.den} : RT.slSet (.cons c r) d (j + 1) s x = (RT.slSet r d.2 j s x).map fun y => (d.1, y) := by cases c <;> rfl
theorem navS_e0 {r q : RT} {rows : List r.den} {x : List q.den} : navS r rows [] q x = if h : q.same r = true then some (castL h x) else none := rfl
theorem navS_e1 {r q : RT} {rows : List r.den} {x : List q.den} {i : Int} {j : Nat} {p : List (Int × Nat)} : navS r rows ((i, j) :: p) q x = match r.slAt (rows.getD i.toNat r.dflt) j with
    | some ⟨s, rs⟩ => match navS s rs p q x with
      | some rs' => match r.slSet (rows.getD i.toNat r.dflt) j s rs' with
        | some row => some (rows.set i.toNat row)
        | none => none
      | none => none
    | none => none := rfl
/-- A row with one slice turned; its cells in memory stay. -/
theorem RowV.slSet {F : Fz} {w w' : World} {own : Bool} : ∀ (r : RT) (d : r.den) (ls : List L) (b o j : Nat) (q : RT) (rs : List q.den) (rs' : List q.den) (k k' : L) (d' : r.den), RowV F w own r d ls b o → r.slAt d j = some ⟨q, rs⟩ → ls[j]? = some k → r.slSet d j q rs' = some d' →
    w'.heap[b]? = w.heap[b]? → (∀ j2 l, j2 ≠ j → ls[j2]? = some l → ∀ b' ∈ l.bl, w'.heap[b']? = w.heap[b']?) → (∀ v, CellV F w own (.sl q) rs k v → CellV F w' own (.sl q) rs' k' v) → RowV F w' own r d' (ls.set j k') b o
  | .one c, d, ls, b, o, j, q, rs, rs', k, k', d', h, hg, hk, hs, hb, ho, hc => by
    obtain ⟨l, v, rfl, hcell, hv⟩ := h
    cases c with
    | sl q' =>
      cases j with
      | zero =>
        simp only [RT.slAt, Option.some.injEq] at hg
        cases hg
        simp at hk
        subst hk
        replace hs : (if h : q.same q = true then some (castL h rs') else none) = some d' := hs
        have e : q.same q = true := by
          cases e : q.same q with
          | true => rfl
          | false => rw [dif_neg (by rw [e]; simp)] at hs; cases hs
        rw [dif_pos e] at hs
        have hs2 := Option.some.inj hs
        subst hs2
        exact ⟨k', v, rfl, by rw [cell_same hb]; exact hcell, castL_rel e (hc v hv)⟩
      | succ j => simp [RT.slAt] at hg
    | int k => cases j <;> simp [RT.slAt] at hg
    | bool => cases j <;> simp [RT.slAt] at hg
    | str => cases j <;> simp [RT.slAt] at hg
    | nl q0 => cases j <;> simp [RT.slAt] at hg
    | vs q0 => cases j <;> simp [RT.slAt] at hg
  | .cons c r, d, ls, b, o, j, q, rs, rs', k, k', d', h, hg, hk, hs, hb, ho, hc => by
    obtain ⟨l, ls', rfl, ⟨v, hcell, hv⟩, hr⟩ := h
    cases j with
    | zero =>
      simp at hk
      subst hk
      cases c with
      | sl q' =>
        simp only [RT.slAt, Option.some.injEq] at hg
        cases hg
        replace hs : (if h : q.same q = true then some (castL h rs', d.2) else none) = some d' := hs
        have e : q.same q = true := by
          cases e : q.same q with
          | true => rfl
          | false => rw [dif_neg (by rw [e]; simp)] at hs; cases hs
        rw [dif_pos e] at hs
        have hs2 := Option.some.inj hs
        subst hs2
        refine ⟨k', ls', rfl, ⟨v, by rw [cell_same hb]; exact hcell, castL_rel e (hc v hv)⟩, RowV.keep r _ ls' b _ hr hb fun b' hm => ?_⟩
        have : ∀ (ls : List L), (∀ (j2 : Nat) (l : L), ls[j2]? = some l → ∀ b' ∈ l.bl, w'.heap[b']? = w.heap[b']?) → ∀ b' ∈ Ls.bl ls, w'.heap[b']? = w.heap[b']? := by
          intro ls
          induction ls with
          | nil => intro _ b' hb'; simp [Ls.bl] at hb'
          | cons x xs ih =>
            intro hx b' hb'
            simp only [Ls.bl, List.mem_append] at hb'
            rcases hb' with hb' | hb'
            · exact hx 0 x (by simp) b' hb'
            · exact ih (fun j2 l hl => hx (j2 + 1) l (by simpa using hl)) b' hb'
        exact this ls' (fun j2 l hl => ho (j2 + 1) l (by omega) (by simpa using hl)) b' hm
      | int k => simp [RT.slAt] at hg
      | bool => simp [RT.slAt] at hg
      | str => simp [RT.slAt] at hg
      | nl q0 => simp [RT.slAt] at hg
      | vs q0 => simp [RT.slAt] at hg
    | succ j =>
      have hg' : r.slAt d.2 j = some ⟨q, rs⟩ := by cases c <;> simpa [RT.slAt] using hg
      have hs' : ∃ y, r.slSet d.2 j q rs' = some y ∧ d' = (d.1, y) := by
        rw [slSet_e3] at hs
        cases hy : r.slSet d.2 j q rs' with
        | none => rw [hy] at hs; cases hs
        | some y => rw [hy] at hs; exact ⟨y, rfl, (Option.some.inj hs).symm⟩
      obtain ⟨y, hy, rfl⟩ := hs'
      have ih := RowV.slSet r d.2 ls' b (o + 1) j q rs rs' k k' y hr hg' (by simpa using hk) hy hb (fun j2 l hn hl => ho (j2 + 1) l (by omega) (by simpa using hl)) hc
      exact ⟨l, ls'.set j k', rfl, ⟨v, by rw [cell_same hb]; exact hcell, hv.keep _ _ _ _ fun b' hm => ho 0 l (by omega) (by simp) b' hm⟩, ih⟩

theorem getD_get {kids : List (List L)} {i : Nat} (h : i < kids.length) : kids[i]? = some (kids.getD i []) := by rw [List.getD_eq_getElem?_getD, List.getElem?_eq_getElem h]; rfl

/-- One element of a slice somewhere in a tree is written. -/
theorem CellV.put {F : Fz} {w w' : World} {b off cap : Nat} {q : RT} {i : Nat} {d' : q.den} {ls' : List L} (hw : ∀ b', b' ≠ b → w'.heap[b']? = w.heap[b']?)
    (hb : ∀ vals e, w.heap[b]? = some (.cells vals e (0, 0)) → ∃ vals', w'.heap[b]? = some (.cells vals' e (0, 0)) ∧ vals'.size = vals.size ∧ ∀ k, (k < off + i * q.size ∨ off + i * q.size + q.size ≤ k) → vals'[k]? = vals[k]?)
    (hnew : RowV F w' true q d' ls' b (off + i * q.size)) : ∀ (p : List (Int × Nat)) (r : RT) (rows rows' : List r.den) (l : L) (v : Value) (rs : List q.den) (kids : List (List L)), CellV F w true (.sl r) rows l v → l.bl.Nodup →
    l.sub p = some (.sl (.at b off cap q.size) kids) → navG r rows p = some ⟨q, rs⟩ → i < rs.length → navS r rows p q (rs.set i d') = some rows' → CellV F w' true (.sl r) rows' (l.put p i ls') v
  | [], r, rows, rows', l, v, rs, kids, h, hnd, hs, hg, hi, hn => by
    simp only [L.sub, Option.some.injEq] at hs
    subst hs
    simp only [navG, Option.some.injEq] at hg
    cases hg
    rw [navS_e0] at hn
    have e : q.same q = true := by
      cases e : q.same q with
      | true => rfl
      | false => rw [dif_neg (by rw [e]; simp)] at hn; cases hn
    rw [dif_pos e] at hn
    have hn2 := Option.some.inj hn
    subst hn2
    refine castL_rel e ?_
    obtain ⟨loc, kids', e', hv, hk, hl, hr⟩ := h
    cases e'
    obtain ⟨hs1, hcap, how⟩ := hl
    have hbn : b ∉ Lss.bl kids := by
      simp only [L.bl, Loc.bl, List.cons_append, List.nil_append, List.nodup_cons] at hnd
      exact hnd.1
    refine ⟨.at b off cap q.size, kids.set i ls', rfl, by rw [hv, List.length_set], by simp only [List.length_set]; exact hk, ⟨rfl, by rw [List.length_set]; exact hcap, fun _ => ?_⟩, fun b2 off2 cap2 sz2 e2 i2 hi2 => ?_⟩
    · obtain ⟨vals, ty, h1, h2⟩ := how rfl
      obtain ⟨vals', h3, h4, _⟩ := hb vals ty h1
      exact ⟨vals', ty, h3, by omega⟩
    · cases e2
      rw [List.length_set] at hi2
      by_cases hii : i2 = i
      · subst hii
        have e1 : List.getD (rs.set i2 d') i2 q.dflt = d' := by simp [List.getD_eq_getElem?_getD, hi2]
        have e3 : (kids.set i2 ls').getD i2 [] = ls' := by simp [List.getD_eq_getElem?_getD, hk, hi2]
        rw [e1, e3]
        exact hnew
      · have e1 : List.getD (rs.set i d') i2 q.dflt = List.getD rs i2 q.dflt := by simp [List.getD_eq_getElem?_getD, List.getElem?_set_ne (Ne.symm hii)]
        have e3 : (kids.set i ls').getD i2 [] = kids.getD i2 [] := by simp [List.getD_eq_getElem?_getD, List.getElem?_set_ne (Ne.symm hii)]
        rw [e1, e3]
        obtain ⟨vs, h1, h2⟩ := (hr b off cap q.size rfl i2 hi2).vals
        have h1' : RowC F w' true q _ _ vs := h1.keep fun b' hm => hw b' fun e => hbn (by subst e; exact Lss.bl_getD kids i2 _ hm)
        refine h1'.mem fun j u hu => ?_
        obtain ⟨vals, ty, h3, h4⟩ := how rfl
        obtain ⟨vals', h5, _, h6⟩ := hb vals ty h3
        have hj : j < q.size := by rw [← h1.length]; exact (List.getElem?_eq_some_iff.1 hu).1
        have h7 := h2 j u hu
        simp only [World.cell?, h3] at h7
        simp only [World.cell?, h5]
        rw [show (if (none : Option Nat).isSome = true then (none : Option Value) else vals'[off + i2 * q.size + j]?) = vals'[off + i2 * q.size + j]? from rfl]
        rw [h6 _ ?_]
        · exact h7
        · rcases Nat.lt_or_ge i2 i with hlt | hge
          · left
            have : (i2 + 1) * q.size ≤ i * q.size := Nat.mul_le_mul_right _ hlt
            rw [Nat.add_mul, Nat.one_mul] at this
            omega
          · right
            have : (i + 1) * q.size ≤ i2 * q.size := Nat.mul_le_mul_right _ (by omega)
            rw [Nat.add_mul, Nat.one_mul] at this
            omega
  | (i1, j1) :: p, r, rows, rows', l, v, rs, kids, h, hnd, hs, hg, hi, hn => by
    obtain ⟨loc, kids0, rfl, hv, hk, hl, hr⟩ := h
    simp only [L.sub] at hs
    cases e1 : kids0[i1.toNat]? with
    | none => simp [e1] at hs
    | some ks =>
      simp only [e1] at hs
      cases e2 : ks[j1]? with
      | none => simp [e2] at hs
      | some k =>
        simp only [e2] at hs
        by_cases e3 : 0 ≤ i1
        · rw [if_pos e3] at hs
          have hlt : i1.toNat < List.length rows := by rw [← hk]; exact (List.getElem?_eq_some_iff.1 e1).1
          simp only [navG] at hg
          rw [navS_e1] at hn
          cases h4 : r.slAt (List.getD rows i1.toNat r.dflt) j1 with
          | none => rw [h4] at hg; cases hg
          | some qs =>
            obtain ⟨q1, rs1⟩ := qs
            rw [h4] at hg hn
            replace hg : navG q1 rs1 p = some ⟨q, rs⟩ := hg
            replace hn : (match navS q1 rs1 p q (rs.set i d') with
              | some rs' => match r.slSet (List.getD rows i1.toNat r.dflt) j1 q1 rs' with
                | some row => some (rows.set i1.toNat row)
                | none => none
              | none => none) = some rows' := hn
            cases h5 : navS q1 rs1 p q (rs.set i d') with
            | none => rw [h5] at hn; cases hn
            | some rs' =>
              rw [h5] at hn
              replace hn : (match r.slSet (List.getD rows i1.toNat r.dflt) j1 q1 rs' with
                | some row => some (rows.set i1.toNat row)
                | none => none) = some rows' := hn
              cases h6 : r.slSet (List.getD rows i1.toNat r.dflt) j1 q1 rs' with
              | none => rw [h6] at hn; cases hn
              | some row =>
                rw [h6] at hn
                replace hn : some (rows.set i1.toNat row) = some rows' := hn
                cases hn
                cases loc with
                | nil => simp only [LocOk] at hl; omega
                | emp a c => simp only [LocOk] at hl; omega
                | «at» b0 off0 cap0 sz0 =>
                  have hnd2 : (Lss.bl kids0).Nodup ∧ b0 ∉ Lss.bl kids0 := by
                    simp only [L.bl, Loc.bl, List.cons_append, List.nil_append, List.nodup_cons] at hnd
                    exact ⟨hnd.2, hnd.1⟩
                  have hbk : b ∈ k.bl := L.sub_bl p k _ hs b (by simp [L.bl, Loc.bl])
                  have hbks : b ∈ Ls.bl ks := Ls.mem_of_get ks j1 k e2 b hbk
                  have hbl : b ∈ Lss.bl kids0 := Lss.mem_of_get kids0 _ ks e1 b hbks
                  have hb0 : b0 ≠ b := fun e => hnd2.2 (by rw [e]; exact hbl)
                  have cnt : (Lss.bl kids0).count b ≤ 1 := List.nodup_iff_count.1 hnd2.1 b
                  have cks : (Ls.bl ks).count b ≤ 1 := Nat.le_trans (Lss.two.Lss.one kids0 _ ks b e1) cnt
                  have hkn : k.bl.Nodup := by
                    rw [List.nodup_iff_count]
                    intro x
                    exact Nat.le_trans (Ls.one ks j1 k x e2) (Nat.le_trans (Lss.two.Lss.one kids0 _ ks x e1) (List.nodup_iff_count.1 hnd2.1 x))
                  have hother : ∀ x : List Nat, x.count b = 0 → ∀ b' ∈ x, w'.heap[b']? = w.heap[b']? := fun x hx b' hm => hw b' fun e => by subst e; exact not_mem_of_count hx hm
                  have hrow := hr b0 off0 cap0 sz0 rfl i1.toNat hlt
                  have hks : kids0.getD i1.toNat [] = ks := by rw [List.getD_eq_getElem?_getD, e1]; rfl
                  rw [hks] at hrow
                  have hrow' : RowV F w' true r row (ks.set j1 (k.put p i ls')) b0 (off0 + i1.toNat * sz0) := by
                    refine RowV.slSet r _ ks b0 _ j1 q1 rs1 rs' k _ row hrow h4 e2 h6 (hw b0 hb0) (fun j2 l2 hj2 hl2 => hother _ ?_) fun v1 hc1 => CellV.put hw hb hnew p q1 rs1 rs' k v1 rs kids hc1 hkn hs hg hi h5
                    have h7 := Ls.two ks j2 j1 l2 k b hj2 hl2 e2
                    have h8 := count_pos hbk
                    omega
                  simp only [L.put, e1, e2]
                  refine ⟨.at b0 off0 cap0 sz0, _, rfl, by rw [hv, List.length_set], by simp only [List.length_set]; exact hk, ?_, fun b2 off2 cap2 sz2 ee i2 hi2 => ?_⟩
                  · have := hl.keep (w' := w') (fun b' hm => hw b' (by simp only [Loc.bl, List.mem_singleton] at hm; rw [hm]; exact hb0))
                    rw [List.length_set]; exact this
                  · cases ee
                    rw [List.length_set] at hi2
                    by_cases hii : i2 = i1.toNat
                    · subst hii
                      have a1 : List.getD (rows.set i1.toNat row) i1.toNat r.dflt = row := by simp [List.getD_eq_getElem?_getD, hi2]
                      have a2 : (kids0.set i1.toNat (ks.set j1 (k.put p i ls'))).getD i1.toNat [] = ks.set j1 (k.put p i ls') := by simp [List.getD_eq_getElem?_getD, hk, hi2]
                      rw [a1, a2]; exact hrow'
                    · have a1 : List.getD (rows.set i1.toNat row) i2 r.dflt = List.getD rows i2 r.dflt := by simp [List.getD_eq_getElem?_getD, List.getElem?_set_ne (Ne.symm hii)]
                      have a2 : (kids0.set i1.toNat (ks.set j1 (k.put p i ls'))).getD i2 [] = kids0.getD i2 [] := by simp [List.getD_eq_getElem?_getD, List.getElem?_set_ne (Ne.symm hii)]
                      rw [a1, a2]
                      refine RowV.keep r _ _ b0 _ (hr b0 off0 cap0 sz0 rfl i2 hi2) (hw b0 hb0) (hother _ ?_)
                      have h7 := Lss.two kids0 i2 i1.toNat (kids0.getD i2 []) ks b hii (getD_get (by omega)) e1
                      have h8 := count_pos hbks
                      omega
        · rw [if_neg e3] at hs; cases hs

end Go.Abs

namespace Go.Abs
open Go.RowKit
set_option linter.unusedSimpArgs false
set_option linter.unusedVariables false

theorem okS_one {B : Base} {G : Gh} {a : AV} {v : Value} (ha : a.okS = true) (h : VRelS B G a v) : v.oneCell' = true := by
  cases a with
  | undef => cases ha
  | agg cs => cases ha
  | tup cs => cases ha
  | func f cs => cases ha
  | int k n => subst h; rfl
  | bool b => subst h; rfl
  | str s => subst h; rfl
  | nil r => subst h; rfl
  | emp => obtain ⟨a, rfl⟩ := h; rfl
  | bor t r x =>
    obtain ⟨⟨l, ⟨loc, kids, _, rfl, _⟩, _⟩, _⟩ := h
    cases loc <;> rfl
  | ref id p view =>
    cases view with
    | none => obtain ⟨loc, n, _, rfl⟩ := h; cases loc <;> rfl
    | some ol =>
      obtain ⟨o, l⟩ := ol
      obtain ⟨loc, n, _, _, _, _, h⟩ := h
      cases loc with
      | nil => subst h; rfl
      | emp a c => subst h; rfl
      | «at» b off cap sz => obtain ⟨c', ⟨rfl, _⟩ | ⟨_, _, a, rfl⟩⟩ := h <;> rfl
  | ptr id off => obtain ⟨b, _, rfl⟩ := h; rfl
  | eptr id p i c => obtain ⟨b, off, cap, sz, n, _, _, _, rfl⟩ := h; rfl
  | bptr r row c => obtain ⟨b, o, ls, _, _, _, rfl⟩ := h; rfl
theorem okS_all {B : Base} {G : Gh} : ∀ {as : List AV} {vs : List Value}, as.all AV.okS = true → VRelL B G as vs → ∀ v ∈ vs, v.oneCell' = true
  | [], vs, _, h, v, hv => by rw [h.nil] at hv; cases hv
  | a :: as, vs, ho, h, v, hv => by
    obtain ⟨u, us, rfl, h1, h2⟩ := h.cons
    simp only [List.all_cons, Bool.and_eq_true] at ho
    rcases List.mem_cons.1 hv with rfl | hv
    · exact okS_one ho.1 h1
    · exact okS_all ho.2 h2 v hv

/-! ### what is stale falls away -/
def purgeHs : List Pl → Heap → Heap
  | [], h => h
  | id :: ids, h => purgeHs ids (purgeH id h)
theorem purgeS_heap : ∀ (ids : List Pl) (s : St), (purgeS ids s).heap = purgeHs ids s.heap
  | [], s => rfl
  | id :: ids, s => by simp only [purgeS, purgeHs]; rw [purgeS_heap ids]
theorem purgeS_next : ∀ (ids : List Pl) (s : St), (purgeS ids s).next = s.next
  | [], s => rfl
  | id :: ids, s => by simp only [purgeS]; rw [purgeS_next ids]
theorem getO_purgeH (id : Pl) : ∀ (h : Heap) (j : Nat), getO (purgeH id h) j = (getO h j).map (purgeO id)
  | [], j => rfl
  | (t, o) :: r, j => by
    simp only [purgeH, getO]
    cases e : Nat.beq t j with
    | true => simp
    | false => simp only [cond_false]; exact getO_purgeH id r j
theorem purgeV_rel {B : Base} {G : Gh} {id : Pl} {a : AV} {v : Value} (h : VRelS B G a v) : VRelS B G (purgeV id a) v := by
  unfold purgeV
  cases e : a.deep id with
  | true => trivial
  | false => exact h
theorem purgeV_relL {B : Base} {G : Gh} {id : Pl} : ∀ {as : List AV} {vs : List Value}, VRelL B G as vs → VRelL B G (as.map (purgeV id)) vs
  | [], vs, h => by rw [h.nil]; trivial
  | a :: as, vs, h => by obtain ⟨u, us, rfl, h1, h2⟩ := h.cons; exact ⟨purgeV_rel h1, purgeV_relL h2⟩
theorem ownd_purge (id : Pl) (o : Obj) : ownd (purgeO id o) = ownd o := by cases o <;> rfl
theorem obl_purge (id : Pl) (o : Obj) (go : GO) : obl (purgeO id o) go = obl o go := by cases o <;> rfl
theorem Sim.purge {B : Base} {G : Gh} {h : Heap} {w : World} (s : Sim B G h w) (id : Pl) : Sim B G (purgeH id h) w := by
  have get : ∀ j o, getO (purgeH id h) j = some o → ∃ o', getO h j = some o' ∧ o = purgeO id o' := by
    intro j o ho
    rw [getO_purgeH] at ho
    cases e : getO h j with
    | none => rw [e] at ho; cases ho
    | some o' => rw [e] at ho; exact ⟨o', rfl, (Option.some.inj ho).symm⟩
  refine ⟨fun j o ho => ?_, fun j o go ho hw => ?_, fun j o go ho hw => ?_, fun i j o o' go go' hij ho ho' hw hw' => ?_, s.os, s.tape, s.output, s.size, s.safe⟩
  · obtain ⟨o', h1, rfl⟩ := get j o ho
    have := s.obj j o' h1
    cases o' with
    | row r rows => exact this
    | part root cols r rows lo hi => exact this
    | box cs => obtain ⟨b, vals, e, h2, h3, h4⟩ := this; exact ⟨b, vals, e, h2, h3, purgeV_relL h4⟩
    | robox cs => obtain ⟨b, vs, h2, h3, h4, h5⟩ := this; exact ⟨b, vs, h2, h3, h4, purgeV_relL h5⟩
  · obtain ⟨o', h1, rfl⟩ := get j o ho
    rw [ownd_purge] at hw
    rw [obl_purge]
    exact s.nodup j o' go h1 hw
  · obtain ⟨o', h1, rfl⟩ := get j o ho
    rw [ownd_purge] at hw
    rw [obl_purge]
    exact s.mine j o' go h1 hw
  · obtain ⟨o1, h1, rfl⟩ := get i o ho
    obtain ⟨o2, h2, rfl⟩ := get j o' ho'
    rw [ownd_purge] at hw hw'
    rw [obl_purge, obl_purge]
    exact s.apart i j o1 o2 go go' hij h1 h2 hw hw'
theorem Held.purge {B : Base} {G : Gh} {h : Heap} {w : World} {bs : List Nat} (x : Held B G h w bs) (id : Pl) : Held B G (purgeH id h) w bs := by
  refine ⟨x.nodup, x.mine, fun j o go ho hw => ?_⟩
  rw [getO_purgeH] at ho
  cases e : getO h j with
  | none => rw [e] at ho; cases ho
  | some o' =>
    rw [e] at ho
    have : o = purgeO id o' := (Option.some.inj ho).symm
    subst this
    rw [ownd_purge] at hw
    rw [obl_purge]
    exact x.apart j o' go e hw

theorem setRow_seg {w : World} {b o : Nat} {cur : Array Value} {ty : TypeId} {vs : List Value} (hb : w.heap[b]? = some (.cells cur ty (0, 0))) (hl : o + vs.length ≤ cur.size) :
    ∃ cur', (w.setRow b (cur.toList.take o ++ vs ++ cur.toList.drop (o + vs.length)).toArray).heap[b]? = some (.cells cur' ty (0, 0)) ∧ cur'.toList = ovw cur.toList o vs ∧ cur'.size = cur.size := by
  refine ⟨_, setRow_heap w b cur _ ty _ hb, by simp [ovw], ?_⟩
  simp only [List.size_toArray, List.length_append, List.length_take, List.length_drop, Array.length_toList]
  omega
theorem ovw_get {us vs : List Value} {c k : Nat} (hl : c + vs.length ≤ us.length) : (ovw us c vs)[k]? = if k < c then us[k]? else if k < c + vs.length then vs[k - c]? else us[k]? := by
  unfold ovw
  rw [List.append_assoc, List.getElem?_append]
  simp only [List.length_take]
  by_cases h1 : k < c
  · rw [if_pos (by omega), if_pos h1, List.getElem?_take, if_pos h1]
  · rw [if_neg (by omega), if_neg h1, List.getElem?_append]
    rw [show min c us.length = c by omega]
    by_cases h2 : k < c + vs.length
    · rw [if_pos (by omega), if_pos h2]
    · rw [if_neg (by omega), if_neg h2, List.getElem?_drop]
      congr 1
      omega

theorem setCells_ovw : ∀ (as : List AV) (cs : List AV) (off : Nat), off + as.length ≤ cs.length → setCells cs off as = cs.take off ++ as ++ cs.drop (off + as.length)
  | [], cs, off, h => by simp [setCells]
  | a :: as, cs, off, h => by
    simp only [setCells]
    rw [setCells_ovw as (cs.set off a) (off + 1) (by simp at h ⊢; omega)]
    simp only [List.length_cons] at h
    have h1 : (cs.set off a).take (off + 1) = cs.take off ++ [a] := by
      rw [List.take_set, List.take_succ_eq_append_getElem (by omega), List.set_append_right _ _ (by simp; omega)]
      simp only [List.length_take]
      rw [show off - min off cs.length = 0 by omega]
      rfl
    have h2 : (cs.set off a).drop (off + 1 + as.length) = cs.drop (off + (as.length + 1)) := by
      rw [List.drop_set_of_lt (by omega)]
      congr 1
      omega
    rw [h1, h2]
    simp


theorem preC_nil (pre : List Nat) (j : Nat) : preC (pre ++ [j]) [] = false := by cases pre <;> rfl
/-- What a header's turn keeps: all that is not behind it. -/
theorem put_vals {B : Base} {G : Gh} {id : Nat} {l l' : L} {pre js : List Nat} (hg : G id = some (.row l)) (ht : ∀ q : List (Int × Nat), (∀ j ∈ js, preC (pre ++ [j]) q = false) → l'.at q = l.at q) {a : AV} {v : Value} (hd : ∀ j ∈ js, a.deepS (id, pre ++ [j]) = false) (h : VRelS B G a v) : VRelS B (G.set id (.row l')) a v := by
  have hbox : ∀ j b, G j = some (.box b) → (G.set id (.row l')) j = some (.box b) := by
    intro j b hj
    unfold Gh.set
    by_cases e : id = j
    · subst e; rw [hg] at hj; cases hj
    · rw [if_neg e]; exact hj
  have hat : ∀ k p x, (k ≠ id ∨ ∀ j ∈ js, preC (pre ++ [j]) p = false) → G.at k p = some x → (G.set id (.row l')).at k p = some x := by
    intro k p x hj hx
    by_cases e : id = k
    · subst e
      rcases hj with hj | hj
      · exact absurd rfl hj
      · unfold Gh.at at hx ⊢
        rw [hg] at hx
        unfold Gh.set
        rw [if_pos rfl]
        show l'.at p = some x
        rw [ht p hj]; exact hx
    · unfold Gh.at at hx ⊢
      unfold Gh.set
      rw [if_neg e]; exact hx
  have key : ∀ (k : Nat) (p : List (Int × Nat)), (∀ j ∈ js, ∀ s q, p = s :: q → (Nat.beq k id && preC (pre ++ [j]) (s :: q)) = false) → k ≠ id ∨ ∀ j ∈ js, preC (pre ++ [j]) p = false := by
    intro k p hp
    by_cases e : k = id
    · right
      intro j hj
      cases p with
      | nil => exact preC_nil pre j
      | cons x p =>
        have := hp j hj x p rfl
        subst e
        simpa using this
    · exact .inl e
  cases a with
  | ref k p view =>
    have hj := key k p fun j hj s q e => by have := hd j hj; subst e; exact this
    cases view with
    | none => obtain ⟨loc, n, h1, h2⟩ := h; exact ⟨loc, n, hat _ _ _ hj h1, h2⟩
    | some ol => obtain ⟨o, l⟩ := ol; obtain ⟨loc, n, h1, h2⟩ := h; exact ⟨loc, n, hat _ _ _ hj h1, h2⟩
  | ptr j off => obtain ⟨b, h1, h2⟩ := h; exact ⟨b, hbox _ _ h1, h2⟩
  | eptr k p i c =>
    have hj := key k p fun j hj s q e => by have := hd j hj; subst e; exact this
    obtain ⟨b, off, cap, sz, n, h1, h2⟩ := h
    exact ⟨b, off, cap, sz, n, hat _ _ _ hj h1, h2⟩
  | _ => exact h
theorem put_valsL {B : Base} {G : Gh} {id : Nat} {l l' : L} {pre js : List Nat} (hg : G id = some (.row l)) (ht : ∀ q : List (Int × Nat), (∀ j ∈ js, preC (pre ++ [j]) q = false) → l'.at q = l.at q) : ∀ {as : List AV} {vs : List Value}, (∀ a ∈ as, ∀ j ∈ js, a.deepS (id, pre ++ [j]) = false) → VRelL B G as vs → VRelL B (G.set id (.row l')) as vs
  | [], vs, _, h => by rw [h.nil]; trivial
  | a :: as, vs, hd, h => by
    obtain ⟨u, us, rfl, h1, h2⟩ := h.cons
    exact ⟨put_vals hg ht (hd a (by simp)) h1, put_valsL hg ht (fun x hx => hd x (by simp [hx])) h2⟩
theorem purge_deep (id : Pl) (a : AV) : (purgeV id a).deepS id = false := by
  unfold purgeV
  cases e : a.deep id with
  | true => rfl
  | false => cases a <;> first | exact e | rfl
theorem purge_deep2 {id z : Pl} {a : AV} (h : a.deepS z = false) : (purgeV id a).deepS z = false := by
  unfold purgeV
  cases e : a.deep id with
  | true => rfl
  | false => exact h

theorem L.sub_count : ∀ (p : List (Int × Nat)) (l k : L) (b : Nat), l.sub p = some k → k.bl.count b ≤ l.bl.count b
  | [], l, k, b, h => by simp only [L.sub, Option.some.injEq] at h; subst h; exact Nat.le_refl _
  | (i1, j1) :: p, l, k, b, hsub => by
    cases l with
    | leaf => simp [L.sub] at hsub
    | sl loc kids0 =>
      simp only [L.sub] at hsub
      cases e1 : kids0[i1.toNat]? with
      | none => simp [e1] at hsub
      | some ks =>
        simp only [e1] at hsub
        cases e2 : ks[j1]? with
        | none => simp [e2] at hsub
        | some k' =>
          simp only [e2] at hsub
          by_cases e3 : 0 ≤ i1
          · rw [if_pos e3] at hsub
            have a1 := L.sub_count p k' k b hsub
            have a2 := Ls.one ks j1 k' b e2
            have a3 := Lss.two.Lss.one kids0 _ ks b e1
            simp only [L.bl, List.count_append] at a1 ⊢
            omega
          · rw [if_neg e3] at hsub; cases hsub
theorem purgeH_setO (id : Pl) (j : Nat) (o : Obj) : ∀ h : Heap, purgeH id (setO h j o) = setO (purgeH id h) j (purgeO id o)
  | [] => rfl
  | (t, x) :: r => by
    simp only [setO, purgeH]
    cases e : Nat.beq t j with
    | true => rfl
    | false =>
      simp only [cond_false]
      cases Nat.blt j t with
      | true => rfl
      | false => simp only [cond_false, purgeH]; rw [purgeH_setO id j o r]
def purgeFs : List Pl → Obj → Obj
  | [], o => o
  | z :: zs, o => purgeFs zs (purgeO z o)
theorem purgeHs_setO : ∀ (zs : List Pl) (j : Nat) (o : Obj) (h : Heap), purgeHs zs (setO h j o) = setO (purgeHs zs h) j (purgeFs zs o)
  | [], j, o, h => rfl
  | z :: zs, j, o, h => by simp only [purgeHs, purgeFs]; rw [purgeH_setO, purgeHs_setO zs]
theorem getO_purgeFs : ∀ (zs : List Pl) (h : Heap) (j : Nat), getO (purgeHs zs h) j = (getO h j).map (purgeFs zs)
  | [], h, j => by simp [purgeHs, purgeFs]
  | z :: zs, h, j => by
    simp only [purgeHs]
    rw [getO_purgeFs zs, getO_purgeH]
    cases getO h j <;> rfl
theorem purgeFs_row : ∀ (zs : List Pl) (r : RT) (x : List r.den), purgeFs zs (.row r x) = .row r x
  | [], r, x => rfl
  | z :: zs, r, x => purgeFs_row zs r x
theorem Sim.purges {B : Base} {G : Gh} {w : World} : ∀ (zs : List Pl) {h : Heap}, Sim B G h w → Sim B G (purgeHs zs h) w
  | [], h, s => s
  | z :: zs, h, s => Sim.purges zs (s.purge z)
theorem Held.purges {B : Base} {G : Gh} {w : World} {bs : List Nat} : ∀ (zs : List Pl) {h : Heap}, Held B G h w bs → Held B G (purgeHs zs h) w bs
  | [], h, s => s
  | z :: zs, h, s => Held.purges zs (s.purge z)
theorem purgeFs_box : ∀ (zs : List Pl) (o : Obj) (cs : List AV), (purgeFs zs o = .box cs ∨ purgeFs zs o = .robox cs) → ∃ xs, (o = .box xs ∨ o = .robox xs) ∧ ∀ a ∈ cs, ∃ x ∈ xs, (∀ z, x.deepS z = false → a.deepS z = false) ∧ ∀ z ∈ zs, a.deepS z = false
  | [], o, cs, e => ⟨cs, e, fun a ha => ⟨a, ha, fun _ h => h, fun z hz => by cases hz⟩⟩
  | z :: zs, o, cs, e => by
    obtain ⟨xs, h1, h2⟩ := purgeFs_box zs (purgeO z o) cs e
    have back : ∀ ys : List AV, xs = ys.map (purgeV z) → ∀ a ∈ cs, ∃ x ∈ ys, (∀ z, x.deepS z = false → a.deepS z = false) ∧ ∀ z' ∈ z :: zs, a.deepS z' = false := by
      intro ys hy a ha
      obtain ⟨x, hx, h3, h4⟩ := h2 a ha
      rw [hy] at hx
      obtain ⟨y, hy2, rfl⟩ := List.mem_map.1 hx
      refine ⟨y, hy2, fun z' hz => h3 z' (purge_deep2 hz), fun z' hz => ?_⟩
      rcases List.mem_cons.1 hz with rfl | hz
      · exact h3 _ (purge_deep _ y)
      · exact h4 z' hz
    cases o with
    | box ys =>
      rcases h1 with h1 | h1
      · exact ⟨ys, .inl rfl, back ys (Obj.box.inj h1).symm⟩
      · cases h1
    | robox ys =>
      rcases h1 with h1 | h1
      · cases h1
      · exact ⟨ys, .inr rfl, back ys (Obj.robox.inj h1).symm⟩
    | row r x => rcases h1 with h1 | h1 <;> cases h1
    | part a b r x lo hi => rcases h1 with h1 | h1 <;> cases h1
theorem purged_box {zs : List Pl} {j : Nat} {h : Heap} {x : Obj} {cs : List AV} (hx : getO (purgeHs zs h) j = some x) (e : x = .box cs ∨ x = .robox cs) : ∀ a ∈ cs, ∀ z ∈ zs, a.deepS z = false := by
  rw [getO_purgeFs] at hx
  cases ho : getO h j with
  | none => rw [ho] at hx; cases hx
  | some o =>
    rw [ho] at hx
    have hx : purgeFs zs o = x := Option.some.inj hx
    subst hx
    obtain ⟨xs, _, h2⟩ := purgeFs_box zs o cs e
    exact fun a ha => (h2 a ha).choose_spec.2.2

structure Stored (B : Base) (G : Gh) (w : World) (z : List Pl) (h' : Heap) (v : Value) (vs : List Value) : Prop where
  out : ∃ b o cur ty G', v = .pointer (some ⟨b, o, none⟩) ∧ w.heap[b]? = some (.cells cur ty (0, 0)) ∧ o + vs.length ≤ cur.size ∧
    Sim B G' (purgeHs z h') (w.setRow b (cur.toList.take o ++ vs ++ cur.toList.drop (o + vs.length)).toArray) ∧
    (∀ a u, (∀ i ∈ z, a.deepS i = false) → VRelS B G a u → VRelS B G' a u) ∧ (z = [] → G' = G) ∧ ∀ id, G id = none → G' id = none

theorem storeC_sound {B : Base} {G : Gh} {h : Heap} {w : World} (s : Sim B G h w) {p : AV} {v : Value} (hp : VRelS B G p v) {as : List AV} {vs : List Value} (hv : VRelL B G as vs) (hne : as ≠ []) {z : List Pl} {h' : Heap} (hst : (storeC as p).Has h z h') :
    Stored B G w z h' v vs := by
  constructor
  cases p with
  | ptr id off =>
    obtain ⟨b, hg, rfl⟩ := hp
    simp only [storeC] at hst
    rw [has_getD] at hst
    cases ho : getO h id with
    | none => rw [ho] at hst; exact hst.elim
    | some o =>
      rw [ho] at hst
      cases o with
      | row r rows => exact hst.elim
      | part root cols r rows lo hi => exact hst.elim
      | robox cs => exact hst.elim
      | box cs =>
        simp only at hst
        cases e : Nat.ble (off + as.length) cs.length with
        | false => rw [e] at hst; exact hst.elim
        | true =>
          rw [e, cond_true, has_putD] at hst
          obtain ⟨rfl, rfl⟩ := hst
          have hle := Nat.le_of_ble_eq_true e
          obtain ⟨b', vals, ty, hg', hb, hvl⟩ := s.obj id _ ho
          rw [hg] at hg'
          cases hg'
          have hlen := hvl.length
          have hlv := hv.length
          have hl : off + vs.length ≤ vals.size := by simp only [Array.length_toList] at hlen; omega
          obtain ⟨cur', h1, h2, h3⟩ := setRow_seg hb hl
          refine ⟨b, off, vals, ty, G, rfl, hb, hl, ?_, fun _ _ _ h => h, fun _ => rfl, fun _ h => h⟩
          refine s.upd (o := .box cs) (go := .box b) (go' := .box b) (bs := []) (S := [b]) ho rfl hg Held.nil (Turn.setRow w b _) (fun x hx => hx) (fun _ _ => rfl) hg rfl ?_ (by simp [obl, GO.bl]) (fun x hx => .inl hx) fun _ _ _ _ _ _ h => h
          refine ⟨b, cur', ty, hg, h1, ?_⟩
          rw [h2, setCells_ovw as cs off hle]
          unfold ovw
          exact ((hvl.take off).append hv).append (by rw [hlv]; exact hvl.drop _)
  | eptr id path i c =>
    obtain ⟨b, off, cap, sz, n, hG, h0, hi, rfl⟩ := hp
    simp only [storeC] at hst
    obtain ⟨x, h1, hn, hst⟩ := (DH.has_andThen _ _ _ _ _).1 hst
    obtain ⟨rfl, r0, rows0, ho, hnav⟩ := navD_has hn
    obtain ⟨q, rs⟩ := x
    obtain ⟨res, h2, hwr, hst⟩ := (DH.has_andThen _ _ _ _ _).1 hst
    obtain ⟨l, kids, hg, hk, hcell, hlen, hbl, hsub⟩ := s.nav hG ho hnav
    have hcell0 := hcell
    obtain ⟨loc, kids', e, _, hkk, hloc, hr⟩ := hcell
    cases e
    obtain ⟨rfl, hcap, how⟩ := hloc
    have hit : i.toNat < List.length rs := by omega
    have hrow := hr b off cap q.size rfl i.toNat hit
    have hks : kids[i.toNat]? = some (kids.getD i.toNat []) := getD_get (by omega)
    obtain ⟨us, hru, hmem⟩ := hrow.vals
    obtain ⟨ls', bn, w1, w2, w3, w4, w5, w6, w7⟩ := wrCells_sound (B := B) (G := G) (w := w) (self := id) (path := path) (i := i) q 0 _ _ us c as vs _ [] res h2 s hru (fun e k l2 hl2 x hx => by
      subst e
      rw [Nat.zero_add]
      unfold Gh.at
      rw [hg]
      show l.at _ = _
      have := L.at_append [] l i k _ _ _ l2 hsub h0 hks hl2
      rw [List.nil_append] at this
      rw [this]; exact hx) hv Held.nil hwr
    have w7 := w7 hne
    rw [has_getD] at hst
    cases ho2 : getO h2 id with
    | none => rw [ho2] at hst; exact hst.elim
    | some o2 =>
      have := w4 id o2 ho2
      rw [ho] at this
      cases this
      rw [ho2] at hst
      simp only at hst
      cases hns : navS r0 rows0 path q (rs.set i.toNat res.1) with
      | none => rw [hns] at hst; exact hst.elim
      | some rows' =>
        rw [hns] at hst
        obtain ⟨zz, hz, hst⟩ := hst
        cases hz
        rw [has_putD] at hst
        obtain ⟨rfl, rfl⟩ := hst
        obtain ⟨vals, ty, hb, hsz⟩ := how rfl
        have hus := hru.length
        have hseg : off + i.toNat * q.size + q.size ≤ vals.size := by
          have : (i.toNat + 1) * q.size ≤ cap * q.size := Nat.mul_le_mul_right _ (by omega)
          rw [Nat.add_mul, Nat.one_mul] at this
          omega
        have hl : off + i.toNat * q.size + c + vs.length ≤ vals.size := by omega
        obtain ⟨cur', k1, k2, k3⟩ := setRow_seg hb hl
        obtain ⟨l3, v3, hg3, htop⟩ := s.obj id _ ho
        rw [hg] at hg3
        cases hg3
        have hnd := s.nodup id _ _ ho rfl hg
        have hw : ∀ b', b' ≠ b → (w.setRow b (vals.toList.take (off + i.toNat * q.size + c) ++ vs ++ vals.toList.drop (off + i.toNat * q.size + c + vs.length)).toArray).heap[b']? = w.heap[b']? := fun b' hb' => setRow_other w b b' _ hb'
        have hbbl : b ∈ l.bl := L.sub_bl path l _ hsub b (by simp [L.bl, Loc.bl])
        have hcur : ∀ k, cur'[k]? = if k < off + i.toNat * q.size + c then vals[k]? else if k < off + i.toNat * q.size + c + vs.length then vs[k - (off + i.toNat * q.size + c)]? else vals[k]? := by
          intro k
          have := ovw_get (us := vals.toList) (vs := vs) (c := off + i.toNat * q.size + c) (k := k) (by simpa using hl)
          rw [← k2] at this
          simpa using this
        have hnew : RowV B.fz (w.setRow b (vals.toList.take (off + i.toNat * q.size + c) ++ vs ++ vals.toList.drop (off + i.toNat * q.size + c + vs.length)).toArray) true q res.1 ls' b (off + i.toNat * q.size) := by
          have hbn : ∀ b' ∈ Ls.bl ls', b' ≠ b := by
            intro b' hb' e
            subst e
            have h5 := w5 b'
            have h6 := count_pos hb'
            have h7 : (Ls.bl (kids.getD i.toNat [])).count b' = 0 := by
              have h8 : (L.sl (.at b' off cap q.size) kids).bl.count b' ≤ l.bl.count b' := L.sub_count path l _ b' hsub
              have h9 := List.nodup_iff_count.1 hnd b'
              simp only [obl, GO.bl] at h9
              simp only [L.bl, Loc.bl, List.count_append, List.count_cons_self, List.count_nil] at h8
              have h10 := Lss.two.Lss.one kids _ _ b' hks
              omega
            have h11 : b' ∉ bn := fun hm => w2.apart id _ _ ho2 rfl hg b' (by simpa using hm) (by simpa [obl, GO.bl] using hbbl)
            have h12 : bn.count b' = 0 := List.count_eq_zero.2 h11
            omega
          refine (w1.keep fun b' hm => hw b' (hbn b' hm)).mem fun j u hu => ?_
          simp only [World.cell?, k1]
          rw [show (if (none : Option Nat).isSome = true then (none : Option Value) else cur'[off + i.toNat * q.size + j]?) = cur'[off + i.toNat * q.size + j]? from rfl, hcur]
          rw [ovw_get (by omega)] at hu
          by_cases e1 : j < c
          · rw [if_pos e1] at hu
            rw [if_pos (by omega)]
            have := hmem j u hu
            simp only [World.cell?, hb] at this
            exact this
          · rw [if_neg e1] at hu
            rw [if_neg (by omega)]
            by_cases e2 : j < c + vs.length
            · rw [if_pos e2] at hu
              rw [if_pos (by omega), show off + i.toNat * q.size + j - (off + i.toNat * q.size + c) = j - c by omega]
              exact hu
            · rw [if_neg e2] at hu
              rw [if_neg (by omega)]
              have := hmem j u hu
              simp only [World.cell?, hb] at this
              exact this
        have htree := CellV.put (w := w) (w' := w.setRow b (vals.toList.take (off + i.toNat * q.size + c) ++ vs ++ vals.toList.drop (off + i.toNat * q.size + c + vs.length)).toArray) (b := b) (off := off) (cap := cap) (q := q) (i := i.toNat) (d' := res.1) (ls' := ls') hw (fun vals2 ty2 hv2 => by
          rw [hb] at hv2
          cases hv2
          refine ⟨cur', k1, k3, fun k hk2 => ?_⟩
          rw [hcur]
          rcases hk2 with hk2 | hk2
          · rw [if_pos (by omega)]
          · rw [if_neg (by omega), if_neg (by omega)]) hnew path r0 rows0 rows' l v3 rs kids htop (by simpa [obl, GO.bl] using hnd) hsub hnav hit hns
        have hcount : ∀ b', (l.put path i.toNat ls').bl.count b' ≤ l.bl.count b' + bn.count b' := by
          intro b'
          have a1 := L.count_put path l _ kids i.toNat ls' _ b' hsub hks
          have a2 := w5 b'
          omega
        have hnd' : (l.put path i.toNat ls').bl.Nodup := by
          rw [List.nodup_iff_count]
          intro b'
          have a1 := hcount b'
          have a2 := List.nodup_iff_count.1 hnd b'
          have a3 := List.nodup_iff_count.1 w2.nodup b'
          simp only [obl, GO.bl] at a2
          simp only [List.nil_append] at a3
          by_cases hm : b' ∈ bn
          · have : b' ∉ l.bl := fun h => w2.apart id _ _ ho2 rfl hg b' (by simpa using hm) (by simpa [obl, GO.bl] using h)
            rw [List.count_eq_zero.2 this] at a1
            omega
          · rw [List.count_eq_zero.2 hm] at a1
            omega
        have hsubm : ∀ b' ∈ (l.put path i.toNat ls').bl, b' ∈ l.bl ∨ b' ∈ bn := by
          intro b' hm
          have a1 := hcount b'
          have a2 := count_pos hm
          by_cases h1 : b' ∈ l.bl
          · exact .inl h1
          · right
            rw [List.count_eq_zero.2 h1] at a1
            exact List.one_le_count_iff.1 (by omega)
        cases hf : res.2 with
        | nil =>
          have hls : ls' = kids.getD i.toNat [] := List.ext_getElem? fun k => w6.1 k (by rw [hf]; simp)
          subst hls
          rw [L.put_same path l _ kids _ _ hsub hks] at htree
          refine ⟨b, off + i.toNat * q.size + c, vals, ty, G, rfl, hb, hl, ?_, fun _ _ _ h => h, fun _ => rfl, fun _ h => h⟩
          show Sim B G (setO h2 id _) _
          exact w3.upd (o := .row r0 rows0) (go := .row l) (go' := .row l) (bs := bn) (S := [b]) ho2 rfl hg (by simpa using w2) (Turn.setRow w b _) (fun x hx => by simp only [List.mem_singleton] at hx; subst hx; exact hbbl) (fun _ _ => rfl) hg rfl ⟨l, v3, hg, htree⟩ hnd (fun x hx => .inl hx) fun _ _ _ _ _ _ h => h
        | cons j0 js0 =>
          rw [← hf]
          have hput : ∀ q2 : List (Int × Nat), (∀ j ∈ res.2, preC (path.map (·.2) ++ [j]) q2 = false) → (l.put path i.toNat ls').at q2 = l.at q2 := L.put_at path l _ kids i.toNat ls' _ res.2 hsub hks fun k hk => w6.1 k (by rw [Nat.zero_add]; exact hk)
          have hzd : ∀ a : AV, (∀ z ∈ res.2.map fun j => (id, path.map (·.2) ++ [j]), a.deepS z = false) → ∀ j ∈ res.2, a.deepS (id, path.map (·.2) ++ [j]) = false := fun a h j hj => h _ (List.mem_map.2 ⟨j, hj, rfl⟩)
          refine ⟨b, off + i.toNat * q.size + c, vals, ty, G.set id (.row (l.put path i.toNat ls')), rfl, hb, hl, ?_, fun a u hd ha => put_vals hg hput (hzd a hd) ha, fun e => ?_, fun j hj => ?_⟩
          · show Sim B _ (purgeHs _ (setO h2 id _)) _
            rw [purgeHs_setO, purgeFs_row]
            have hsp := w3.purges (res.2.map fun j => (id, path.map (·.2) ++ [j]))
            have hhp := Held.purges (res.2.map fun j => (id, path.map (·.2) ++ [j])) (by simpa using w2 : Held B G h2 w bn)
            have hop : getO (purgeHs (res.2.map fun j => (id, path.map (·.2) ++ [j])) h2) id = some (.row r0 rows0) := by rw [getO_purgeFs, ho2]; simp [purgeFs_row]
            have hgid : (G.set id (.row (l.put path i.toNat ls'))) id = some (.row (l.put path i.toNat ls')) := by unfold Gh.set; rw [if_pos rfl]
            exact hsp.upd (o := .row r0 rows0) (o' := .row r0 rows') (go := .row l) (go' := .row (l.put path i.toNat ls')) (bs := bn) (S := [b]) hop rfl hg hhp (Turn.setRow w b _) (fun x hx => by simp only [List.mem_singleton] at hx; subst hx; exact hbbl)
              (fun j hj => by unfold Gh.set; rw [if_neg fun e => hj e.symm]) hgid rfl ⟨_, v3, hgid, htree⟩ hnd' hsubm fun j x cs vs' hx e h => put_valsL hg hput (fun a ha => hzd a (purged_box hx e a ha)) h
          · rw [hf] at e; exact absurd e (List.cons_ne_nil _ _)
          · unfold Gh.set
            by_cases e : id = j
            · subst e; rw [hg] at hj; cases hj
            · rw [if_neg e]; exact hj
  | _ => exact hst.elim

end Go.Abs

