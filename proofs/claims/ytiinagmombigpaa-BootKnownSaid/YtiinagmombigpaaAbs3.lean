/- The evaluator's steps, regions, control, calls. (Definitions alone.) -/
import Derived.Test.YtiinagmombigpaaAbs2
namespace Go.Abs

inductive Rd where
  | no | one (b : Nat) | all
  deriving DecidableEq, Inhabited

/-- what an operation does that touches one block at most -/
structure Eff where
  v : AV
  /-- this temporary owns its slice no longer -/
  un : Option Tmp := none
  /-- a block that is laid or written -/
  up : Option (Nat × ABlock) := none
  /-- a block that is read -/
  rd : Rd := .no
  /-- the block is written in this alone: a slice in it has lost its owner's right -/
  tk : Bool := false
  deriving Inhabited

def Eff.of (v : AV) : Eff := { v }
def Eff.rdd (r : Rd) (v : AV) : Eff := { v, rd := r }

/-- the block that an address or a slice lies in -/
def rdOf : AV → Rd
  | .ptr b _ _ | .sl b _ _ _ _ | .isl b _ _ _ _ => .one b
  | .mp m => .one m
  | _ => .no

def owner (fr : PT) : Operand → Option Tmp
  | .tmp t => match fr.get t with
    | .vec _ .own _ => some t
    | _ => none
  | _ => none

def isTmp (d : Tmp) : Option Operand → Bool
  | some (.tmp t) => t == d
  | _ => false
def takesBy (d : Tmp) (o : Oper) : Bool :=
  match o.op with
  | .call c => match c.callee with
    | .builtin .append => isTmp d c.args[0]?
    | _ => false
  | _ => false
/-- is the temporary d handed to an append as the slice that grows? -/
def takes (ops : Array Oper) (d : Tmp) : Bool := ops.toList.any (takesBy d)

def freeze (H : Hp) (ro : Nat) (v : AV) : Option Eff :=
  match v with
  | .sl b _ i len cap => if b < ro then none else match H[b]? with
    | some (.cells sz _ els) => if i + len ≤ els.length ∧ len ≤ cap then some { v := .vec sz .shared (((els.drop i).take len).map cl1), up := some (b, .gone), rd := .one b } else none
    | _ => none
  | _ => none

/-- may a block be laid under this number? -/
def free (ro : Nat) (H : Hp) (nm : Nat) : Bool :=
  match H[nm]? with
  | none => nm == H.length && Nat.ble ro nm
  | some .res => Nat.ble ro nm
  | _ => false

def lMove (cx : Cx) (ro : Nat) (fn : FuncId) (ops : Array Oper) (d : Tmp) (fr : PT) (H : Hp) (x : Operand) : Option Eff :=
  if cx.pol.frz fn d then freeze H ro (ev fr x)
  else match owner fr x with
    | some t => if takes ops d then some { v := fr.get t, un := some t } else some (.of (ev fr x))
    | none => some (.of (ev fr x))
def lPick (fr : PT) (c a b : Operand) : Option Eff :=
  match ev fr c with
  | .lit (.bool true) => some (.of (ev fr a))
  | .lit (.bool false) => some (.of (ev fr b))
  | _ => none
def lAlloc (T : TypeId → Option TI) (ro nm : Nat) (H : Hp) (e : TypeId) : Option Eff :=
  match T e with
  | some te => match zeroAV te with
    | some z => if te.size = 0 ∨ free ro H nm = false then none else some { v := .ptr nm 0 0, up := some (nm, .cells te.size e [z]) }
    | none => none
  | none => none
def lBox (T : TypeId → Option TI) (ro nm : Nat) (H : Hp) (e : TypeId) (x : AV) : Option Eff :=
  match T e with
  | some te => if te.size = 0 ∨ fit te x = false ∨ free ro H nm = false then none else some { v := .ptr nm 0 0, up := some (nm, .cells te.size e [drp x]) }
  | none => none
def lLaid (ro nm : Nat) (H : Hp) : Option (AV × Hp) → Option Eff
  | some (_, [.cells sz e els]) => if free ro H nm = false then none else some { v := .sl nm sz 0 els.length els.length, up := some (nm, .cells sz e els) }
  | _ => none
def lBuildSlice (T : TypeId → Option TI) (heap : Bool) (ro nm : Nat) (H : Hp) (t : TypeId) (len : Nat) (parts : List (Nat × AV)) : Option Eff :=
  if heap then lLaid ro nm H (abuildSlice T true t len (parts.map fun (i, x) => (i, drp x)) [])
  else (abuildSlice T false t len parts []).map fun p => .of p.1
def lMakeSlice (T : TypeId → Option TI) (heap : Bool) (ro nm : Nat) (H : Hp) (t : TypeId) (l c : AV) : Option Eff :=
  if heap then lLaid ro nm H (amakeSlice T true t l c [])
  else (amakeSlice T false t l c []).map fun p => .of p.1
def lTake (ti : Option TI) (ro : Nat) (v : AV) (b : Nat) (H' : Hp) : Option Eff :=
  if b < ro ∨ ti.map (·.agg) ≠ some false then none else some { v, up := (H'[b]?).map fun blk => (b, blk), rd := .one b, tk := true }
def lLoad (cx : Cx) (ro : Nat) (fn : FuncId) (ops : Array Oper) (d : Tmp) (H : Hp) (t : TypeId) (x : AV) : Option Eff :=
  if cx.pol.frz fn d then ((aload cx.T t H x).bind (freeze H ro)).map fun e => { e with rd := .all }
  else if takes ops d then match atake H x with
    | some (v, b, H') => lTake (cx.T t) ro v b H'
    | none => (aload cx.T t H x).map (.rdd .all)
  else (aload cx.T t H x).map (.rdd (rdOf x))
def lStore (T : TypeId → Option TI) (ro : Nat) (fr : PT) (H : Hp) (t : TypeId) (a : AV) (x : Operand) : Option Eff :=
  match a with
  | .ptr b i j => if b < ro then none else match astore T t H (.ptr b i j) (match owner fr x with | some s => fr.get s | none => drp (ev fr x)) with
    | some H' => some { v := .tup [], un := owner fr x, up := (H'[b]?).map fun blk => (b, blk), rd := .one b }
    | none => none
  | _ => none
def lNilCheck : AV → Option Eff
  | .ptr b i j => some (.of (.ptr b i j))
  | .vp el j => some (.of (.vp el j))
  | .fn f cap => some (.of (.fn f cap))
  | .yld l => some (.of (.yld l))
  | _ => none
def lMakeFunc (fr : PT) (f : Fn) (first captured : Array Operand) : Option Eff :=
  match f with
  | .func f => if first.isEmpty then some (.of (.fn f (captured.toList.map (ev fr)))) else none
  | _ => none
def lExtract (x : AV) (i : Nat) : Option Eff :=
  match x with
  | .tup vs => (vs[i]?).map fun v => .of (drp v)
  | _ => none
def lFound (ok : Bool) (z : AV) (m : Nat) : Option (Option (Nat × AV)) → Option Eff
  | some (some (_, v)) => some { v := if ok then .tup [v, .lit (.bool true)] else v, rd := .one m }
  | some none => some { v := if ok then .tup [z, .lit (.bool false)] else z, rd := .one m }
  | none => none
def lLookup (T : TypeId → Option TI) (H : Hp) (t : TypeId) (x k : AV) (ok : Bool) : Option Eff :=
  match T t with
  | some ti => match ti.d with
    | .map kt e => match T e with
      | some te => if keyOk T kt k = false then none else match zeroAV te, x with
        | some z, .mp m => match H[m]? with
          | some (.mapo es) => lFound ok z m (mfind T kt k es 0)
          | _ => none
        | _, _ => none
      | none => none
    | _ => none
  | none => none
def lUpd (m : Nat) (es : List (AV × AV)) (k x : AV) : Option (Option (Nat × AV)) → Option Eff
  | some (some (i, _)) => some { v := .tup [], up := some (m, .mapo (es.set i (k, x))), rd := .one m }
  | some none => some { v := .tup [], up := some (m, .mapo (es ++ [(k, x)])), rd := .one m }
  | none => none
def lMapUpdate (T : TypeId → Option TI) (ro : Nat) (H : Hp) (t : TypeId) (x k v : AV) : Option Eff :=
  match T t with
  | some ti => match ti.d, x with
    | .map kt _, .mp m => if m < ro ∨ keyOk T kt k = false then none else match H[m]? with
      | some (.mapo es) => lUpd m es (cl1 k) (cl1 v) (mfind T kt k es 0)
      | _ => none
    | _, _ => none
  | none => none
def lDel (m : Nat) (es : List (AV × AV)) : Option (Option (Nat × AV)) → Option Eff
  | some (some (i, _)) => some { v := .tup [], up := some (m, .mapo (es.eraseIdx i)), rd := .one m }
  | some none => some { v := .tup [], up := some (m, .mapo es), rd := .one m }
  | none => none
def lDelete (T : TypeId → Option TI) (ro : Nat) (H : Hp) (t : TypeId) (x k : AV) : Option Eff :=
  match T t with
  | some ti => match ti.d, x with
    | .map kt _, .mp m => if m < ro ∨ keyOk T kt k = false then none else match H[m]? with
      | some (.mapo es) => lDel m es (mfind T kt k es 0)
      | _ => none
    | _, _ => none
  | none => none
def lAppend (cx : Cx) (fn : FuncId) (ro nm : Nat) (d : Tmp) (fr : PT) (H : Hp) (t : TypeId) (s x : Operand) : Option Eff :=
  if cx.pol.heap fn d then match aappendB cx.T t H (raw fr s) (ev fr x) with
    | some (els, sz, e) => if free ro H nm = false then none else some { v := .sl nm sz 0 els.length els.length, up := some (nm, .cells sz e els), rd := rdOf (ev fr x) }
    | none => none
  else (aappend cx.T t H (raw fr s) (ev fr x)).map fun v => { v, un := owner fr s, rd := rdOf (ev fr x) }
def lCopy (T : TypeId → Option TI) (ro : Nat) (H : Hp) (t : TypeId) (x y : AV) : Option Eff :=
  match acopy T t H x y with
  | some (n, b, blk) => if b < ro ∨ rdOf y ≠ .no then none else some { v := .lit (.int .i64 n), up := some (b, blk), rd := .one b }
  | none => none
def lenRd : AV → Rd
  | .mp m => .one m
  | _ => .no

def lBuiltin (cx : Cx) (ro : Nat) (fn : FuncId) (nm : Nat) (d : Tmp) (fr : PT) (H : Hp) (b : Builtin) (args : List Operand) (tys : List TypeId) : Option Eff :=
  match b, args, tys with
  | .len, [x], t :: _ => (alen cx.T t H (ev fr x)).map (.rdd (lenRd (ev fr x)))
  | .append, [s, x], t :: t' :: _ => match cx.T t' with
    | some { d := .slice _, .. } => lAppend cx fn ro nm d fr H t s x
    | _ => none
  | .min, _, _ => (aminmax false (args.map (ev fr))).map .of
  | .max, _, _ => (aminmax true (args.map (ev fr))).map .of
  | .copy, [x, y], t :: _ => lCopy cx.T ro H t (ev fr x) (ev fr y)
  | .delete, [m, k], t :: _ => lDelete cx.T ro H t (ev fr m) (ev fr k)
  | _, _, _ => none

def lCall (cx : Cx) (ro : Nat) (fn : FuncId) (nm : Nat) (d : Tmp) (fr : PT) (H : Hp) (c : Call) : Option Eff :=
  match c.callee with
  | .builtin b => lBuiltin cx ro fn nm d fr H b c.args.toList c.argTypes.toList
  | _ => none

/-- an operation that is no call of a function, and no loop's round -/
def lop (cx : Cx) (ro : Nat) (fn : FuncId) (ops : Array Oper) (nm : Nat) (fr : PT) (H : Hp) (d : Tmp) (op : Op) : Option Eff :=
  match op with
  | .move x => lMove cx ro fn ops d fr H x
  | .assign x => some { v := raw fr x, un := owner fr x }
  | .pick c a b => lPick fr c a b
  | .alloc e => lAlloc cx.T ro nm H e
  | .box e x => lBox cx.T ro nm H e (ev fr x)
  | .build t parts => (abuild cx.T t (parts.toList.map fun p => (p.1, ev fr p.2))).map .of
  | .buildSlice t len parts => lBuildSlice cx.T (cx.pol.heap fn d) ro nm H t len (parts.toList.map fun p => (p.1, ev fr p.2))
  | .makeSlice t l c => lMakeSlice cx.T (cx.pol.heap fn d) ro nm H t (ev fr l) (ev fr c)
  | .makeMap _ none => if free ro H nm = false then none else some { v := .mp nm, up := some (nm, .mapo []) }
  | .load t a => lLoad cx ro fn ops d H t (ev fr a)
  | .store t a x => lStore cx.T ro fr H t (ev fr a) x
  | .nilCheck x => lNilCheck (ev fr x)
  | .binOp op t x y _ => (abin cx.T op t (ev fr x) (ev fr y)).map .of
  | .unOp op _ x => (aun op (ev fr x)).map .of
  | .convert src dst x => (aconv cx.T src dst (ev fr x)).map .of
  | .makeFunc f first captured => lMakeFunc fr f first captured
  | .slice t x lo hi mx => (aslice cx.T t (ev fr x) (lo.map (ev fr)) (hi.map (ev fr)) (mx.map (ev fr))).map .of
  | .fieldAddr t x f => (afieldAddr cx.T t (ev fr x) f).map .of
  | .field t x f => (afield cx.T t (ev fr x) f).map .of
  | .indexAddr t x ix => (aindexAddr cx.T t (ev fr x) (ev fr ix)).map .of
  | .index t x ix => (aindex cx.T t (ev fr x) (ev fr ix)).map .of
  | .extract t i => lExtract (ev fr t) i
  | .lookup t x k ok => lLookup cx.T H t (ev fr x) (ev fr k) ok
  | .mapUpdate t m k x => lMapUpdate cx.T ro H t (ev fr m) (ev fr k) (ev fr x)
  | .call c => lCall cx ro fn nm d fr H c
  | _ => none

abbrev Res := Ex × PT × Hp

/-- what is known to run with less fuel -/
structure Hd where
  call : Nat → FuncId → List AV → Hp → Option (AV × Hp)
  loop : Nat → FuncId → Nat → Code → PT → Hp → Option Res
  code : Nat → FuncId → Nat → Code → PT → Hp → Option Res

def setArgs : List (Tmp × AV) → PT → PT
  | [], fr => fr
  | (t, a) :: l, fr => setArgs l (fr.set t (drp a))

/-- the end of a round, by the way in which its body was left -/
def endRound (l : Nat) : Option Res → Option (AV × Hp)
  | some (e, _, H) => match H[l]? with
    | some (.loop r) => some (.lit (.bool (e == .normal)), H.set l (.loop { r with state := if e = .normal then .ready else .done, pending := if e = .normal then none else some e }))
    | _ => none
  | none => none
/-- a round's body, behind the assignments to the loop's left sides -/
def bodyRound (h : Hd) (ro l : Nat) (r0 : ALoop) : Option Res → Option (AV × Hp)
  | some (.normal, fr, H) => match H[l]? with
    | some (.loop r) => if r.state = .ready then endRound l (h.code ro r0.fn r0.nt r0.body fr (H.set l (.loop { r with state := .busy }))) else none
    | _ => none
  | _ => none
def round (h : Hd) (ro l : Nat) (args : List AV) (H : Hp) : Option (AV × Hp) :=
  if l < ro then none else
  match H[l]? with
  | some (.loop r) =>
    if r.state = .ready ∧ args.length = r.params.length ∧ r.params.all (· < r.nt) then
      bodyRound h ro l r (h.code ro r.fn r.nt r.assign (setArgs (r.params.zip args) r.fr) H)
    else none
  | _ => none

/-- how a function is called: without a view of the blocks; with one, none being written; with one -/
inductive Way where
  | pure | quiet | full
  deriving DecidableEq
def way (cx : Cx) (g : FuncId) (args : List AV) : Way :=
  if cx.pol.pure g then (if args.all shut1 then .pure else .quiet) else if cx.pol.quiet g then .quiet else .full

def purely (r : Option (AV × Hp)) (n : Nat) (H : Hp) : Option (AV × Hp) :=
  match r with
  | some (v, H') => some (frz n H' v, H)
  | none => none

/-- a function's call -/
def docall (h : Hd) (ro : Nat) (g : FuncId) (args : List AV) (H : Hp) : Way → Option (AV × Hp)
  | .pure => purely (h.call 0 g (args.map cl2) []) 0 H
  | .quiet => purely (h.call H.length g (args.map drp) H) H.length H
  | .full => h.call ro g (args.map drp) H

/-- what a step has touched: temporaries read and written, blocks read and written -/
structure Fp where
  rs : List Tmp
  ws : List Tmp
  rd : Rd
  wr : Rd
  tk : Rd
  deriving Inhabited

def tmpsOf (ops : Array Oper) (o : Oper) : List Tmp :=
  (o.op.operands.toList.filterMap fun | .tmp t => some t | _ => none) ++
  (match o.guard with
   | some (g, _) => ((ops[g]?).bind (·.dst)).toList
   | none => [])

def wantsV (want : Bool) : AV → Option Bool
  | .lit (.bool b) => some (b == want)
  | .tup [] => some false
  | _ => none
/-- whether a guard lets the operation by -/
def wants (ops : Array Oper) (fr : PT) (o : Oper) : Option Bool :=
  match o.guard with
  | none => some true
  | some (j, want) => match (ops[j]?).bind (·.dst) with
    | none => none
    | some d => wantsV want (fr.get d)

def putD (nt : Nat) (dst : Option Tmp) (v : AV) (fr : PT) : Option PT :=
  match dst with
  | none => some fr
  | some d => if d < nt then some (fr.set d v) else none

def unownT (un : Option Tmp) (fr : PT) : PT :=
  match un with
  | none => fr
  | some t => fr.set t (shr (fr.get t))

def putB (H : Hp) : Option (Nat × ABlock) → Hp
  | none => H
  | some (b, blk) => if b = H.length then H ++ [blk] else H.set b blk

def blockOf : Option (Nat × ABlock) → Rd
  | some (b, _) => .one b
  | none => .no

def stepped (nt : Nat) (ops : Array Oper) (o : Oper) (fr : PT) (rd wr : Rd) : Option (AV × Hp) → Option (Fp × PT × Hp)
  | some (v, H') => (putD nt o.dst v fr).map fun fr' => (⟨tmpsOf ops o, o.dst.toList, rd, wr, .no⟩, fr', H')
  | none => none
def effed (nt : Nat) (ops : Array Oper) (o : Oper) (fr : PT) (H : Hp) : Option Eff → Option (Fp × PT × Hp)
  | some e => (putD nt o.dst e.v (unownT e.un fr)).map fun fr' =>
      (⟨tmpsOf ops o, o.dst.toList ++ e.un.toList, e.rd, if e.tk then .no else blockOf e.up, if e.tk then blockOf e.up else .no⟩, fr', putB H e.up)
  | none => none
def rdWay : Way → Rd
  | .pure => .no
  | _ => .all
def wrWay : Way → Rd
  | .full => .all
  | _ => .no
def calls (cx : Cx) (h : Hd) (ro nt : Nat) (ops : Array Oper) (o : Oper) (fr : PT) (H : Hp) (f : AV) (args : List AV) : Option (Fp × PT × Hp) :=
  match f with
  | .fn g cap => stepped nt ops o fr (rdWay (way cx g (args ++ cap))) (wrWay (way cx g (args ++ cap))) (docall h ro g (args ++ cap) H (way cx g (args ++ cap)))
  | .yld l => stepped nt ops o fr .all .all (round h ro l args H)
  | _ => none
def calleeOf : Op → Option (Operand × List Operand)
  | .call c => match c.callee with
    | .value f => some (f, c.args.toList)
    | _ => none
  | _ => none
def stepO (cx : Cx) (h : Hd) (ro : Nat) (fn nt : Nat) (ops : Array Oper) (nm : Nat) (fr : PT) (H : Hp) (o : Oper) : Option (Fp × PT × Hp) :=
  match calleeOf o.op with
  | some (f, args) => calls cx h ro nt ops o fr H (ev fr f) (args.map (ev fr))
  | none => effed nt ops o fr H (lop cx ro fn ops nm fr H (o.dst.getD 0) o.op)
def stepG (cx : Cx) (h : Hd) (ro : Nat) (fn nt : Nat) (ops : Array Oper) (nm : Nat) (fr : PT) (H : Hp) (o : Oper) : Option Bool → Option (Fp × PT × Hp)
  | none => none
  | some false => stepped nt ops o fr .no .no (some (.tup [], H))
  | some true => stepO cx h ro fn nt ops nm fr H o
def step (cx : Cx) (h : Hd) (ro : Nat) (fn nt : Nat) (ops : Array Oper) (nm : Nat) (fr : PT) (H : Hp) : Option Oper → Option (Fp × PT × Hp)
  | none => none
  | some o => stepG cx h ro fn nt ops nm fr H o (wants ops fr o)

def cons1 (i : Nat) (f : Fp) : Option (List (Nat × Fp) × PT × Hp) → Option (List (Nat × Fp) × PT × Hp)
  | some (fs, r) => some ((i, f) :: fs, r)
  | none => none
/-- operations, in the order of a list -/
def run (cx : Cx) (h : Hd) (ro : Nat) (fn nt : Nat) (ops : Array Oper) (nm : Hp → Nat → Nat) : List Nat → PT → Hp → Option (List (Nat × Fp) × PT × Hp)
  | [], fr, H => some ([], fr, H)
  | i :: l, fr, H => match step cx h ro fn nt ops (nm H i) fr H ops[i]? with
    | some (f, fr', H') => cons1 i f (run cx h ro fn nt ops nm l fr' H')
    | none => none

/-! ### a region whose order is open: what is not ordered does not meddle with one another -/
def befores (ops : Array Oper) : List Nat :=
  ops.toList.foldl (fun acc o => acc ++ [o.after.toList.foldl (fun s e => if Region.binds .any e then s ||| 2 ^ e.on ||| acc.getD e.on 0 else s) 0]) []

def Rd.meets : Rd → Rd → Bool
  | .no, _ | _, .no => false
  | .one a, .one b => a == b
  | _, _ => true

def Fp.apart (f g : Fp) : Bool :=
  f.ws.all (fun t => !g.rs.contains t && !g.ws.contains t) && g.ws.all (fun t => !f.rs.contains t) &&
  !f.wr.meets g.rd && !f.wr.meets g.wr && !f.rd.meets g.wr && !f.wr.meets g.tk && !f.tk.meets g.wr && !f.tk.meets g.tk && !(f.tk != .no && g.rd == .all) && !(g.tk != .no && f.rd == .all)

def apartAll (bs : List Nat) : List (Nat × Fp) → Bool
  | [] => true
  | (i, f) :: l => l.all (fun (j, g) => (bs.getD j 0).testBit i || f.apart g) && apartAll bs l

def forward (ops : Array Oper) : Bool :=
  ops.toList.zipIdx.all fun (o, i) => o.after.toList.all fun e => !Region.binds .any e || e.on < i

def isAlloc (cx : Cx) (fn : FuncId) (o : Oper) : Bool :=
  match o.op with
  | .alloc _ | .box .. | .makeMap .. => true
  | .makeSlice .. | .buildSlice .. => cx.pol.heap fn (o.dst.getD 0)
  | .call c => match c.callee with
    | .builtin .append => cx.pol.heap fn (o.dst.getD 0)
    | _ => false
  | _ => false

def ranAny (bs : List Nat) : Option (List (Nat × Fp) × PT × Hp) → Option (PT × Hp)
  | some (fs, r) => if apartAll bs fs then some r else none
  | none => none
def ranOnly : Option (List (Nat × Fp) × PT × Hp) → Option (PT × Hp)
  | some (_, r) => some r
  | none => none
def region (cx : Cx) (h : Hd) (ro : Nat) (fn nt : Nat) (ops : Array Oper) (fr : PT) (H : Hp) : Bool → Option (PT × Hp)
  | true =>
    if forward ops then
      ranAny (befores ops) (run cx h ro fn nt ops (fun _ i => H.length + ((ops.toList.take i).filter (isAlloc cx fn)).length) (List.range ops.size) fr
        (H ++ List.replicate (ops.toList.filter (isAlloc cx fn)).length .res))
    else none
  | false => ranOnly (run cx h ro fn nt ops (fun H _ => H.length) (List.range ops.size) fr H)

def endLoop (l : Nat) (fr : PT) : Option (AV × Hp) → Option Res
  | some (_, H) => match H[l]? with
    | some (.loop r) => if r.state = .busy then none else some (r.pending.getD .normal, fr, H.set l (.loop { r with state := .exhausted }))
    | _ => none
  | none => none
def ranged (h : Hd) (ro : Nat) (fr : PT) (H : Hp) (r : ALoop) (f : AV) : Option Res :=
  match f with
  | .fn g cap => endLoop H.length fr (h.call ro g (.yld H.length :: cap) (H ++ [.loop r]))
  | _ => none

def thenR (k : PT → Hp → Option Res) : Option Res → Option Res
  | some (.normal, fr, H) => k fr H
  | r => r
def normR : Option (PT × Hp) → Option Res
  | some (fr, H) => some (.normal, fr, H)
  | none => none
def blockR (id : Nat) : Option Res → Option Res
  | some (.exit id', fr, H) => some (if id' = id then .normal else .exit id', fr, H)
  | r => r
def condR (a b : PT → Hp → Option Res) (fr : PT) (H : Hp) : AV → Option Res
  | .lit (.bool true) => a fr H
  | .lit (.bool false) => b fr H
  | _ => none

def ex (cx : Cx) (h : Hd) (ro : Nat) (fn nt : Nat) : Code → PT → Hp → Option Res
  | .skip => fun fr H => some (.normal, fr, H)
  | .label _ => fun fr H => some (.normal, fr, H)
  | .region _ ops draw => fun fr H => normR (region cx h ro fn nt ops fr H draw)
  | .seq a b => fun fr H => thenR (ex cx h ro fn nt b) (ex cx h ro fn nt a fr H)
  | .cond c a b => fun fr H => condR (ex cx h ro fn nt a) (ex cx h ro fn nt b) fr H (ev fr c)
  | .block id a => fun fr H => blockR id (ex cx h ro fn nt a fr H)
  | .loop a => h.loop ro fn nt a
  | .rangeFunc f params assign body => fun fr H => ranged h ro fr H { fn, nt, fr := fr.map drp, params := params.toList, assign, body, state := .ready, pending := none } (ev fr f)
  | .exit id => fun fr H => some (.exit id, fr, H)
  | .scope a => ex cx h ro fn nt a
  | .ret => fun fr H => some (.ret, fr, H)
  | .goto _ => fun _ _ => none
  | .refuse _ => fun _ _ => none

/-- blocks that were laid since the loop was come to are forgotten at its head -/
def trimmed (k : PT → Hp → Option Res) (n : Nat) (fr : PT) (H : Hp) : Option Res :=
  if H.length = n then k fr H else k (fr.map (kill n)) ((H.take n).map (killB n))

def loopB (cx : Cx) (h : Hd) (ro : Nat) (fn nt : Nat) (a : Code) (fr : PT) (H : Hp) : Option Res :=
  thenR (trimmed (h.loop ro fn nt a) H.length) (ex cx h ro fn nt a fr H)

def resOne (cx : Cx) (fr : PT) (H : Hp) : ResultVar → Option AV
  | .tmp t => some (fr.get t)
  | .cell a t => aload cx.T t H (ev fr (.tmp a))
def resAll (cx : Cx) (fr : PT) (H : Hp) : List ResultVar → Option (AV × Hp)
  | [r] => (resOne cx fr H r).map fun v => (v, H)
  | rs => (rs.mapM (resOne cx fr H)).map fun vs => (.tup (vs.map drp), H)
def returned (cx : Cx) (rs : List ResultVar) : Option Res → Option (AV × Hp)
  | some (.exit _, _, _) => none
  | some (_, fr, H) => resAll cx fr H rs
  | none => none
def bodied (cx : Cx) (h : Hd) (ro : Nat) (g : FuncId) (fn : Func) (args : List AV) (H : Hp) : Option Code → Option (AV × Hp)
  | some c => if args.length ≤ fn.ntmps ∧ fn.ntmps ≤ 16000 then returned cx fn.results.toList (ex cx h ro g fn.ntmps c (setArgs ((List.range args.length).zip args) .nil) H) else none
  | none => none
def funced (cx : Cx) (h : Hd) (ro : Nat) (g : FuncId) (args : List AV) (H : Hp) : Option Func → Option (AV × Hp)
  | some fn => bodied cx h ro g fn args H fn.body
  | none => none
def callB (cx : Cx) (h : Hd) (ro : Nat) (g : FuncId) (args : List AV) (H : Hp) : Option (AV × Hp) := funced cx h ro g args H (cx.fns g)

def Hd.none : Hd := ⟨fun _ _ _ _ => Option.none, fun _ _ _ _ _ _ => Option.none, fun _ _ _ _ _ _ => Option.none⟩
def lvl (cx : Cx) : Nat → Hd
  | 0 => .none
  | k + 1 => ⟨callB cx (lvl cx k), loopB cx (lvl cx k), ex cx (lvl cx k)⟩

end Go.Abs
