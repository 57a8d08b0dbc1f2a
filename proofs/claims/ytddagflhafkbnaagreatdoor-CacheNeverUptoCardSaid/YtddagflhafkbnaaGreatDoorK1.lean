/- Part K1 of the proof: see the last text of the claim. No condition of its own. -/
import GoSem.Step
import GoSem.Core.Region
import Derived.KernelRfl
import Derived.Calls
set_option linter.all false
set_option autoImplicit false
namespace Go.Abs
inductive Ty where
 | int (k:IntKind)
 | bool
 | str
 | unit
 | pair (a b:Ty)
 | st (a:Ty)
 | arr (n:Nat) (a:Ty)
 | sl (own:Bool) (a:Ty)
 | ptr (a:Ty)
 | rptr (a:Ty)
 | optr (a:Ty)
 | clo (f:FuncId) (n:Nat) (a:Ty)
 | nilp
 deriving Inhabited
@[reducible] def Ty.den:Ty->Type
 | .int _=> Int
 | .bool=> Bool
 | .str=> List UInt8
 | .unit=> Unit
 | .pair a b=> a.den×b.den
 | .st a=> a.den
 | .arr _ a=> List a.den
 | .sl _ a=> List a.den
 | .ptr a=> a.den
 | .rptr a=> a.den
 | .optr a=> Option a.den
 | .clo _ _ a=> a.den
 | .nilp=> Unit
def Ty.zero:(t:Ty)->t.den
 | .int _=> (0:Int)
 | .bool=> false
 | .str=> ([]:List UInt8)
 | .unit=> ()
 | .pair a b=> (a.zero,b.zero)
 | .st a=> a.zero
 | .arr n a=> List.replicate n a.zero
 | .sl _ a=> ([]:List a.den)
 | .ptr a=> a.zero
 | .rptr a=> a.zero
 | .optr a=> (none:Option a.den)
 | .clo _ _ a=> a.zero
 | .nilp=> ()
def Ty.size:Ty->Nat
 | .unit=> 0
 | .pair a b=> a.size+b.size
 | .st a=> a.size
 | .arr n a=> n*a.size
 | _=> 1
def Ty.isAgg:Ty->Bool
 | .st _=> true
 | .arr _ _=> true
 | _=> false
def Ty.pure:Ty->Bool
 | .pair a b=> a.pure&&b.pure
 | .st a=> a.pure
 | .arr _ a=> a.pure
 | .sl own a=> !own&&a.pure
 | .ptr _=> false
 | .optr _=> false
 | .rptr a=> a.pure
 | .clo _ _ a=> a.pure
 | _=> true
def Ty.free:Ty->Bool
 | .pair a b=> a.free&&b.free
 | .st a=> a.free
 | .arr _ a=> a.free
 | .sl own a=> own&&a.free
 | .ptr a=> a.free
 | .optr a=> a.free
 | .rptr _=> false
 | .clo _ _ _=> false
 | _=> true
def Y93:(a b:IntKind)->Option (PLift (a=b))
 | .i8,.i8=> some ⟨rfl⟩
 | .i16,.i16=> some ⟨rfl⟩
 | .i32,.i32=> some ⟨rfl⟩
 | .i64,.i64=> some ⟨rfl⟩
 | .u8,.u8=> some ⟨rfl⟩
 | .u16,.u16=> some ⟨rfl⟩
 | .u32,.u32=> some ⟨rfl⟩
 | .u64,.u64=> some ⟨rfl⟩
 | _,_=> none
def Yc5 (a b:Nat):Option (PLift (a=b)):=if h:a=b then some ⟨h⟩ else none
def Ye9:(a b:Bool)->Option (PLift (a=b))
 | true,true=> some ⟨rfl⟩
 | false,false=> some ⟨rfl⟩
 | _,_=> none
def Ty.eq? :(a b:Ty)->Option (PLift (a=b))
 | .int j,.int k=> match Y93 j k with
  | some ⟨h⟩=> some ⟨h▸ rfl⟩
  | none=> none
 | .bool,.bool=> some ⟨rfl⟩
 | .str,.str=> some ⟨rfl⟩
 | .unit,.unit=> some ⟨rfl⟩
 | .pair a b,.pair c d=> match a.eq? c,b.eq? d with
  | some ⟨h⟩,some ⟨g⟩=> some ⟨h▸ g▸ rfl⟩
  | _,_=> none
 | .st a,.st c=> match a.eq? c with
  | some ⟨h⟩=> some ⟨h▸ rfl⟩
  | none=> none
 | .arr n a,.arr m c=> match Yc5 n m,a.eq? c with
  | some ⟨h⟩,some ⟨g⟩=> some ⟨h▸ g▸ rfl⟩
  | _,_=> none
 | .sl o a,.sl p c=> match Ye9 o p,a.eq? c with
  | some ⟨h⟩,some ⟨g⟩=> some ⟨h▸ g▸ rfl⟩
  | _,_=> none
 | .ptr a,.ptr c=> match a.eq? c with
  | some ⟨h⟩=> some ⟨h▸ rfl⟩
  | none=> none
 | .rptr a,.rptr c=> match a.eq? c with
  | some ⟨h⟩=> some ⟨h▸ rfl⟩
  | none=> none
 | .optr a,.optr c=> match a.eq? c with
  | some ⟨h⟩=> some ⟨h▸ rfl⟩
  | none=> none
 | .clo f n a,.clo g m c=> match Yc5 f g,Yc5 n m,a.eq? c with
  | some ⟨h⟩,some ⟨j⟩,some ⟨i⟩=> some ⟨h▸ j▸ i▸ rfl⟩
  | _,_,_=> none
 | .nilp,.nilp=> some ⟨rfl⟩
 | _,_=> none
def Ty.cast (a b:Ty) (x:a.den):Option b.den:=
 match a.eq? b with
 | some ⟨h⟩=> some (h▸ x)
 | none=> none
def Ty.beq:(t:Ty)->t.den->t.den->Bool
 | .int _,(a:Int),(b:Int)=> a==b
 | .bool,(a:Bool),(b:Bool)=> a==b
 | .str,(a:List UInt8),(b:List UInt8)=> a==b
 | .unit,_,_=> true
 | .pair a b,x,y=> a.beq x.1 y.1&&b.beq x.2 y.2
 | .st a,x,y=> a.beq x y
 | .arr _ a,x,y=> lbeq (a.beq) x y
 | _,_,_=> false
 where lbeq {α:Type} (f:α->α->Bool):List α->List α->Bool
 | [],[]=> true
 | x::xs,y::ys=> f x y&&lbeq f xs ys
 | _,_=> false
def Ty.eqOk:Ty->Bool
 | .int _=> true
 | .bool=> true
 | .str=> true
 | .unit=> true
 | .pair a b=> a.eqOk&&b.eqOk
 | .st a=> a.eqOk
 | .arr _ a=> a.eqOk
 | _=> false
inductive Step where
 | fst | snd | inn
 | idx (i:Nat)
inductive Base where
 | box (b:Nat)
 | row (r i:Nat)
 | fbox (t:Ty) (x:t.den)
inductive PV where
 | undef
 | val (t:Ty) (x:t.den)
 | pair (a b:PV)
 | st (a:PV)
 | row (r:Nat)
 | part (r lo hi:Nat)
 | bpart (b:Nat) (path:List Step) (lo hi:Nat)
 | nils
 | nilp
 | addr (b:Base) (path:List Step)
 | cl (f:FuncId) (n:Nat) (caps:PV)
 | ifc (t:TypeId) (p:PV)
 | tnil
 | tcons (a b:PV)
 deriving Inhabited
inductive Own where
 | live | frz | dead
 deriving Inhabited
inductive RowE where
 | none
 | mk (t:Ty) (o:Own) (xs:List t.den)
inductive BoxE where
 | none
 | cells (T:Ty) (o:Own) (c:PV)
 | iter (s:List UInt8) (pos:Nat)
structure St where
 slots:Nat->PV
 boxes:Nat->BoxE
 rows:Nat->RowE
def St.put (s:St) (d:Nat) (v:PV):St:={ s with slots:=fun n=> bif Nat.beq n d then v else s.slots n }
def St.only (s:St) (ks:List Nat):St:={ s with slots:=fun k=> bif ks.any (Nat.beq k) then s.slots k else .undef }
def St.putO (s:St) (d:Option Nat) (v:PV):St:=match d with | some d=> s.put d v | none=> s
def St.setRow (s:St) (r:Nat) (e:RowE):St:={ s with rows:=fun n=> bif Nat.beq n r then e else s.rows n }
def St.setBox (s:St) (b:Nat) (e:BoxE):St:={ s with boxes:=fun n=> bif Nat.beq n b then e else s.boxes n }
def St.newRow (s:St) (r:Nat) (t:Ty) (xs:List t.den):Option St:=
 match s.rows r with
 | .none=> some (s.setRow r (.mk t .live xs))
 | _=> none
def St.newBox (s:St) (b:Nat) (e:BoxE):Option St:=
 match s.boxes b with
 | .none=> some (s.setBox b e)
 | _=> none
def YC8:RowE->RowE->RowE
 | .mk _ .live _,.mk t .frz xs=> .mk t .live xs
 | _,e=> e
def Ys6:BoxE->BoxE->BoxE
 | .cells _ .live _,.cells T .frz c=> .cells T .live c
 | _,e=> e
def St.thaw (s s':St):St:={ s' with rows:=fun n=> YC8 (s.rows n) (s'.rows n),boxes:=fun n=> Ys6 (s.boxes n) (s'.boxes n) }
def PV.fst:PV->PV
 | .val (.pair a _) x=> .val a x.1
 | .pair p _=> p
 | _=> .undef
def PV.snd:PV->PV
 | .val (.pair _ b) x=> .val b x.2
 | .pair _ q=> q
 | _=> .undef
def PV.inn:PV->PV
 | .val (.st a) x=> .val a x
 | .st p=> p
 | _=> .undef
def PV.mkPair:PV->PV->PV
 | .val a x,.val b y=> .val (.pair a b) (x,y)
 | p,q=> .pair p q
def PV.mkSt:PV->PV
 | .val a x=> .val (.st a) x
 | p=> .st p
def PV.isAgg:PV->Bool
 | .val t _=> t.isAgg
 | .st _=> true
 | _=> false
def PV.size:PV->Nat
 | .val t _=> t.size
 | .pair a b=> a.size+b.size
 | .st a=> a.size
 | .undef=> 0
 | .tnil=> 0
 | .tcons _ _=> 0
 | _=> 1
def Ty.same:Ty->Ty->Bool
 | .int j,.int k=> (Y93 j k).isSome
 | .bool,.bool=> true
 | .str,.str=> true
 | .unit,.unit=> true
 | .pair a b,.pair c d=> a.same c&&b.same d
 | .st a,.st c=> a.same c
 | .arr n a,.arr m c=> Nat.beq n m&&a.same c
 | .sl _ _,.sl _ _=> true
 | .ptr _,t=> isPtr t
 | .rptr _,t=> isPtr t
 | .optr _,t=> isPtr t
 | .nilp,t=> isPtr t
 | .clo _ _ _,.clo _ _ _=> true
 | _,_=> false
 where isPtr:Ty->Bool
 | .ptr _=> true
 | .rptr _=> true
 | .optr _=> true
 | .nilp=> true
 | _=> false
def fits:Ty->PV->Bool
 | T,.val t _=> T.same t
 | .pair a b,.pair p q=> fits a p&&fits b q
 | .st a,.st p=> fits a p
 | .sl _ _,.row _=> true
 | .sl _ _,.part _ _ _=> true
 | .sl _ _,.bpart _ _ _ _=> true
 | .sl _ _,.nils=> true
 | .ptr _,.addr _ _=> true
 | .rptr _,.addr _ _=> true
 | .optr _,.addr _ _=> true
 | .nilp,.addr _ _=> true
 | .ptr _,.nilp=> true
 | .rptr _,.nilp=> true
 | .optr _,.nilp=> true
 | .nilp,.nilp=> true
 | .clo _ _ _,.cl _ _ _=> true
 | _,_=> false
def Ty.zok:Ty->Bool
 | .int _=> true
 | .bool=> true
 | .str=> true
 | .unit=> true
 | .pair a b=> a.zok&&b.zok
 | .st a=> a.zok
 | .arr _ a=> a.zok
 | .sl own a=> !own&&a.pure
 | _=> false
def Y31:Ty->PV
 | .pair a b=> .mkPair (Y31 a) (Y31 b)
 | .st a=> .mkSt (Y31 a)
 | .sl _ _=> .nils
 | .ptr _=> .nilp
 | .rptr _=> .nilp
 | .optr _=> .nilp
 | .nilp=> .nilp
 | t=> bif t.zok then .val t t.zero else .undef
def PV.get:PV->List Step->PV
 | p,[]=> p
 | p,.fst::l=> p.fst.get l
 | p,.snd::l=> p.snd.get l
 | p,.inn::l=> p.inn.get l
 | .val (.arr _ a) x,.idx i::l=> PV.get (.val a (x.getD i a.zero)) l
 | _,.idx _::_=> .undef
def Yo (t:Ty):PV->Option t.den
 | .val u x=> Ty.cast u t x
 | _=> none
def PV.set:PV->List Step->PV->Option PV
 | _,[],v=> some v
 | p,.fst::l,v=> match p.fst.set l v with
  | some q=> some (.mkPair q p.snd)
  | none=> none
 | p,.snd::l,v=> match p.snd.set l v with
  | some q=> some (.mkPair p.fst q)
  | none=> none
 | p,.inn::l,v=> match p.inn.set l v with
  | some q=> some (.mkSt q)
  | none=> none
 | .val (.arr n a) x,.idx i::l,v=> match PV.set (.val a (x.getD i a.zero)) l v with
  | some q=> match Yo a q with
   | some y=> some (.val (.arr n a) (List.set x i y))
   | none=> none
  | none=> none
 | _,.idx _::_,_=> none
structure Sig where
 args:List Ty
 res:List Ty
 pan:Option (TypeId×Ty):=none
def tup:List Ty->Ty
 | []=> .unit
 | [t]=> t
 | t::u::ts=> .pair t (tup (u::ts))
def Sig.backs (g:Sig):List Ty:=g.args.filterMap fun | .ptr t=> some t | _=> none
@[reducible] def Sig.arg (g:Sig):Ty:=tup g.args
@[reducible] def Sig.good (g:Sig):Ty:=tup (g.res++g.backs)
@[reducible] def Sig.Out (g:Sig):Type:=match g.pan with
 | none=> g.good.den
 | some (_,t)=> t.den ⊕ g.good.den
def Sig.leaks (g:Sig):Bool:=!(g.res++g.backs).all Ty.free
inductive Conv where
 | keep
 | frz
 | row (t:Ty)
abbrev Live:=List (Nat×Conv)
def PV.mark:PV->Nat
 | .cl f _ _=> f+2
 | .nilp=> 1
 | _=> 0
structure Guard where
 clo:FuncId
 caps:List Nat
 pan:(i:TypeId)->(t:Ty)->t.den->St->Option St
structure Env where
 P:Program
 ty:TypeId->Option Ty
 elem:TypeId->Option TypeId
 nf:TypeId->Nat
 eqs:TypeId->Bool
 gl:List (Nat×(Σ t:Ty,t.den)):=[]
 ints:List (Nat×IntKind):=[]
 sig:FuncId->Sig
 ann:FuncId->Nat->Option Live
 code:FuncId->FuncId
 goes:FuncId->Bool
 vars:FuncId->List (List Nat×FuncId)
 prim:(f:FuncId)->Option ((sig f).arg.den->Option (sig f).Out)
 ord:FuncId->Nat->Option (List Nat)
 grd:FuncId->Option Guard:=fun _=> none
def YPa:List Nat->List Nat->Bool
 | [],[]=> true
 | a::l,b::m=> Nat.beq a b&&YPa l m
 | _,_=> false
def Y15 (k:List Nat):List (List Nat×FuncId)->FuncId->FuncId
 | [],f=> f
 | (m,g)::l,f=> bif YPa m k then g else Y15 k l f
def Env.vary (E:Env) (f:FuncId) (ps:List PV):FuncId:=Y15 (ps.map PV.mark) (E.vars f) f
section eval
variable (E:Env)
def Yja:Value->PV
 | .int k n=> .val (.int k) n
 | .bool b=> .val .bool b
 | .string s=> .val .str s.data.toList
 | .slice none 0 0=> .nils
 | .pointer none=> .nilp
 | _=> .undef
def YN7 (g:Nat):List (Nat×(Σ t:Ty,t.den))->PV
 | []=> .undef
 | (n,⟨t,x⟩)::l=> bif Nat.beq g n then .addr (.fbox t x) [] else YN7 g l
def St.opd (s:St):Operand->PV
 | .tmp t=> s.slots t
 | .const v=> Yja v
 | .func f=> .cl f 0 (.val .unit ())
 | .global g=> YN7 g E.gl
def Y41:Nat->Nat->List Step   -- n fields,field f
 | 0,_=> []
 | 1,_=> []
 | _+2,0=> [.fst]
 | n+2,f+1=> .snd::Y41 (n+1) f
def St.elems (s:St) (t:Ty):PV->Option (List t.den)
 | .val (.sl _ u) x=> Ty.cast (.sl false u) (.sl false t) x
 | .nils=> some []
 | .row r=> match s.rows r with
  | .mk _ .dead _=> none
  | .mk u _ xs=> bif u.pure then Ty.cast (.sl false u) (.sl false t) xs else none
  | _=> none
 | .part r lo hi=> match s.rows r with
  | .mk _ .dead _=> none
  | .mk u _ xs=> bif u.pure then Ty.cast (.sl false u) (.sl false t) ((xs.take hi).drop lo) else none
  | _=> none
 | .bpart b path lo hi=> match s.boxes b with
  | .cells _ .dead _=> none
  | .cells _ _ c=> match c.get path with
   | .val (.arr _ u) x=> Ty.cast (.sl false u) (.sl false t) ((List.take hi x).drop lo)
   | _=> none
  | _=> none
 | _=> none
def St.len (s:St) (u:Ty) (p:PV):Option Nat:=
 match u with
 | .str=> match p with
  | .val .str (x:List UInt8)=> some x.length
  | _=> none
 | .arr n _=> some n
 | .sl _ _=> match p with
  | .val (.sl _ _) x=> some x.length
  | .nils=> some 0
  | .row r=> match s.rows r with
   | .mk _ .dead _=> none
   | .mk _ _ xs=> some xs.length
   | _=> none
  | .part _ lo hi=> some (hi - lo)
  | .bpart _ _ lo hi=> some (hi - lo)
  | _=> none
 | _=> none
def St.freezeRow (s:St) (r:Nat):St:=match s.rows r with
 | .mk t .live xs=> s.setRow r (.mk t .frz xs)
 | _=> s
def St.freezeBox (s:St) (b:Nat):St:=match s.boxes b with
 | .cells T .live c=> s.setBox b (.cells T .frz c)
 | _=> s
def St.freeze (s:St):PV->St
 | .row r=> s.freezeRow r
 | .part r _ _=> s.freezeRow r
 | .bpart b _ _ _=> s.freezeBox b
 | .addr (.box b) _=> s.freezeBox b
 | .addr (.row r _) _=> s.freezeRow r
 | _=> s
def St.load (s:St):PV->Option PV
 | .addr (.box b) path=> match s.boxes b with
  | .cells _ .dead _=> none
  | .cells _ _ c=> some (c.get path)
  | _=> none
 | .addr (.row r i) path=> match s.rows r with
  | .mk _ .dead _=> none
  | .mk t _ xs=> match PV.get (.val t (xs.getD i t.zero)) path with
   | .val u x=> bif u.pure then some (.val u x) else none
   | _=> none
  | _=> none
 | .addr (.fbox t x) path=> some (PV.get (.val t x) path)
 | _=> none
def Yh:(t:Ty)->PV->St->Option (t.den×St)
 | .pair a b,p,s=> match Yo (.pair a b) p with
  | some x=> some (x,s)
  | none=> match Yh a p.fst s with
   | some (x,s)=> match Yh b p.snd s with
    | some (y,s)=> some ((x,y),s)
    | none=> none
   | none=> none
 | .st a,p,s=> match Yo (.st a) p with
  | some x=> some (x,s)
  | none=> Yh a p.inn s
 | .sl false a,p,s=> match s.elems a p with
  | some xs=> some (xs,s.freeze p)
  | none=> none
 | .sl true a,.row r,s=> match s.rows r with
  | .mk t .live xs=> match Ty.cast (.sl false t) (.sl false a) xs with
   | some ys=> some (ys,s.setRow r (.mk t .dead xs))
   | none=> none
  | _=> none
 | .sl true _,.nils,s=> some ([],s)
 | .sl true a,.part r 0 hi,s=> match s.rows r with
  | .mk t .live xs=> bif t.pure then match Ty.cast (.sl false t) (.sl false a) (xs.take hi) with
   | some ys=> some (ys,s.setRow r (.mk t .dead xs))
   | none=> none else none
  | _=> none
 | .rptr a,.addr (.box b) path,s=> match s.load (.addr (.box b) path) with
  | some q=> match Yo a q with
   | some x=> some (x,s.freezeBox b)
   | none=> none
  | none=> none
 | .rptr a,.addr (.fbox t x) path,s=> match Yo a (PV.get (.val t x) path) with
  | some x=> some (x,s)
  | none=> none
 | .ptr a,.addr (.box b) [],s=> match s.boxes b with
  | .cells T .live c=> bif T.same a then Yh a c (s.setBox b (.cells T .dead c)) else none
  | _=> none
 | .optr _,.nilp,s=> some (none,s)
 | .optr a,.addr (.box b) [],s=> match s.boxes b with
  | .cells T .live c=> bif T.same a then match Yh a c (s.setBox b (.cells T .dead c)) with
   | some (x,s)=> some (some x,s)
   | none=> none else none
  | _=> none
 | .clo f n a,.cl g m p,s=> match Yc5 f g,Yc5 n m with
  | some _,some _=> Yh a p s
  | _,_=> none
 | .nilp,.nilp,s=> some ((),s)
 | t,p,s=> match Yo t p with
  | some x=> some (x,s)
  | none=> none
def imp {R:Type}:(t:Ty)->(id:Nat)->t.den->St->(PV->St->Option R)->Option R
 | .pair a b,id,x,s,k=> bif (a.pure&&b.pure) then k (.val (.pair a b) x) s else
   imp a (2*id) x.1 s fun p s=> imp b (2*id+1) x.2 s fun q s=> k (.mkPair p q) s
 | .st a,id,x,s,k=> bif a.pure then k (.val (.st a) x) s else imp a (2*id) x s fun p s=> k (.mkSt p) s
 | .sl true a,id,x,s,k=> match s.newRow id a x with
  | some s=> k (.row id) s
  | none=> none
 | .ptr a,id,x,s,k=> imp a (2*id) x s fun p s=> match s.newBox id (.cells a .live p) with
  | some s=> k (.addr (.box id) []) s
  | none=> none
 | .rptr a,_,x,s,k=> bif a.pure then k (.addr (.fbox a x) []) s else none
 | .optr a,id,x,s,k=> match x with
  | none=> k .nilp s
  | some y=> imp a (2*id) y s fun p s=> match s.newBox id (.cells a .live p) with
   | some s=> k (.addr (.box id) []) s
   | none=> none
 | .clo f n a,id,x,s,k=> imp a (2*id) x s fun p s=> k (.cl f n p) s
 | .nilp,_,_,s,k=> k .nilp s
 | t,_,x,s,k=> bif t.pure then k (.val t x) s else none
def lim:Nat:=2 ^ 32
def Yy1 (n:Int):List UInt8:=(Utf8.encode n).data.toList
def Yx (s:List UInt8) (i:Nat):Nat×Nat:=Utf8.decode ⟨s.toArray⟩ i
def YL (s:List UInt8):List Int:=s.map fun b=> (b.toNat:Int)
def Yn (xs:List Int):List UInt8:=xs.map fun n=> UInt8.ofNat n.toNat
def YD (s:List UInt8):List Int:=((Conv.runesFrom ⟨s.toArray⟩ s.length 0 #[]).map fun | .int _ n=> n | _=> 0).toList
def YT2 (xs:List Int):List UInt8:=xs.flatMap Yy1
def bits (op:BinOp) (k:IntKind) (x y:Int):Int:=
 let a:=BitVec.ofInt k.bits x
 let b:=BitVec.ofInt k.bits y
 k.wrap (match op with
  | .and=> (a&&&b).toNat
  | .or=> (a|||b).toNat
  | .xor=> (a ^^^ b).toNat
  | _=> (a&&&~~~b).toNat)
def shl (k:IntKind) (x y:Int):Int:=k.wrap (x*2 ^ (min y.toNat k.bits))
def shr (k:IntKind) (x y:Int):Int:=x.fdiv (2 ^ (min y.toNat k.bits))
def YLa (op:BinOp) (k:IntKind) (a b:Int):Option (Bool×PV):=
 match op with
 | .add=> some (true,.val (.int k) (k.wrap (a+b)))
 | .sub=> some (true,.val (.int k) (k.wrap (a - b)))
 | .mul=> some (true,.val (.int k) (k.wrap (a*b)))
 | .quo=> some (b !=0,.val (.int k) (k.wrap (a.tdiv b)))
 | .rem=> some (b !=0,.val (.int k) (a.tmod b))
 | .and | .or | .xor | .andNot=> some (true,.val (.int k) (bits op k a b))
 | .eql=> some (true,.val .bool (a==b))
 | .neq=> some (true,.val .bool (a !=b))
 | .lss=> some (true,.val .bool (decide (a < b)))
 | .leq=> some (true,.val .bool (decide (a<=b)))
 | .gtr=> some (true,.val .bool (decide (a > b)))
 | .geq=> some (true,.val .bool (decide (a>=b)))
 | _=> none
def YQb (op:BinOp) (a b:List UInt8):Option (Bool×PV):=
 match op with
 | .add=> some (decide (a.length+b.length<=2 ^ 62),.val .str (a++b))
 | .eql=> some (true,.val .bool (a==b))
 | .neq=> some (true,.val .bool (!(a==b)))
 | .lss=> some (true,.val .bool (Op.bytesLess a b))
 | .leq=> some (true,.val .bool (Op.bytesLess a b||a==b))
 | .gtr=> some (true,.val .bool (!(Op.bytesLess a b||a==b)))
 | .geq=> some (true,.val .bool (!Op.bytesLess a b))
 | _=> none
def binPV (op:BinOp) (T:Option Ty) (eq:Bool):PV->PV->Option (Bool×PV)
 | .val (.int j) a,.val (.int k) b=> match op with
  | .shl=> some (decide ((0:Int)<=b),.val (.int j) (shl j a b))
  | .shr=> some (decide ((0:Int)<=b),.val (.int j) (shr j a b))
  | _=> match Y93 j k with
   | some _=> YLa op j a b
   | none=> none
 | .val .str a,.val .str b=> YQb op a b
 | .val .bool a,.val .bool b=> match T,op with
  | some .bool,.eql=> some (true,.val .bool (a==b))
  | some .bool,.neq=> some (true,.val .bool (!(a==b)))
  | _,_=> none
 | .val t x,.val u y=> match Ty.cast u t y,T with
  | some z,some T=> bif t.eqOk&&(T.same t&&eq) then match op with
   | .eql=> some (true,.val .bool (t.beq x z))
   | .neq=> some (true,.val .bool (!t.beq x z))
   | _=> none else none
  | _,_=> none
 | .nilp,.nilp=> ptrBin op T true
 | .nilp,.addr _ _=> ptrBin op T false
 | .addr _ _,.nilp=> ptrBin op T false
 | _,_=> none
 where ptrBin (op:BinOp) (T:Option Ty) (b:Bool):Option (Bool×PV):=
 match T with
 | some (.ptr _)=> match op with
  | .eql=> some (true,.val .bool b)
  | .neq=> some (true,.val .bool (!b))
  | _=> none
 | _=> none
def unPV (op:UnOp):PV->Option PV
 | .val (.int k) a=> match op with
  | .neg=> some (.val (.int k) (k.wrap (0 - a)))
  | .xor=> some (.val (.int k) (bits .xor k (if k.signed then -1 else k.max) a))
  | _=> none
 | .val .bool b=> match op with
  | .not=> some (.val .bool (!b))
  | _=> none
 | _=> none
def Ya (i:Int) (n:Nat):Bool:=decide (0<=i)&&decide (i < n)
def Yh2 (s:St) (u:Ty) (p:PV) (i:Int):Option (Bool×PV):=
 match u with
 | .sl _ e=> match p with
  | .val (.sl _ t) x=> bif Nat.beq e.size t.size then some (Ya i x.length,.addr (.fbox t (List.getD x i.toNat t.zero)) []) else none
  | .row r=> match s.rows r with
   | .mk _ .dead _=> none
   | .mk t _ xs=> bif Nat.beq e.size t.size then some (Ya i xs.length,.addr (.row r i.toNat) []) else none
   | _=> none
  | .part r lo hi=> match s.rows r with
   | .mk _ .dead _=> none
   | .mk t _ _=> bif Nat.beq e.size t.size then some (Ya i (hi - lo),.addr (.row r (lo+i.toNat)) []) else none
   | _=> none
  | _=> none
 | .arr n e=> match p with
  | .addr b path=> match s.load (.addr b path) with
   | some (.val (.arr m t) _)=> bif Nat.beq n m&&Nat.beq e.size t.size then some (Ya i n,.addr b (path++[.idx i.toNat])) else none
   | _=> none
  | _=> none
 | _=> none
def Ty.at:Ty->List Step->Ty
 | t,[]=> t
 | .pair a _,.fst::l=> a.at l
 | .pair _ b,.snd::l=> b.at l
 | .st a,.inn::l=> a.at l
 | .arr _ a,.idx _::l=> a.at l
 | _,_=> .unit
def St.tyAt (s:St) (b:Base) (path:List Step):Option Ty:=match b with
 | .box b=> match s.boxes b with
  | .cells T _ _=> some (T.at path)
  | _=> none
 | .row r _=> match s.rows r with
  | .mk t _ _=> some (t.at path)
  | _=> none
 | .fbox t _=> some (t.at path)
def YR3 (s:St):PV->PV->Option St
 | .addr (.box b) path,v=> match s.boxes b with
  | .cells T .live c=> bif fits (T.at path) v then match c.set path v with
   | some c'=> some (s.setBox b (.cells T .live c'))
   | none=> none else none
  | _=> none
 | .addr (.row r i) path,v=> match s.rows r with
  | .mk t .live xs=> bif t.pure&&fits (t.at path) v then match PV.set (.val t (xs.getD i t.zero)) path v with
   | some q=> match Yh t q s with
    | some (y,s)=> match s.rows r with
     | .mk _ .live _=> some (s.setRow r (.mk t .live (xs.set i y)))
     | _=> none
    | none=> none
   | none=> none else none
  | _=> none
 | _,_=> none
def YE3:PV->Option Int
 | .val (.int _) n=> some n
 | _=> none
def Yi (lo hi:Option Int) (n:Nat):Bool:=
 match lo,hi with
 | none,none=> true
 | some l,none=> decide (0<=l)&&decide (l<=n)
 | none,some h=> decide (0<=h)&&decide (h<=n)
 | some l,some h=> decide (0<=l)&&(decide (l<=h)&&decide (h<=n))
def Ym {α:Type} (lo hi:Option Int) (x:List α):List α:=
 match lo,hi with
 | none,none=> x
 | some l,none=> x.drop l.toNat
 | none,some h=> x.take h.toNat
 | some l,some h=> (x.take h.toNat).drop l.toNat
def Y82 (s:St) (u:Ty) (p:PV) (lo hi:Option Int):Option (Bool×PV):=
 match u with
 | .str=> match p with
  | .val .str (x:List UInt8)=> some (Yi lo hi x.length,.val .str (Ym lo hi x))
  | _=> none
 | .sl _ e=> match p with
  | .val (.sl _ t) x=> bif Nat.beq e.size t.size then some (Yi lo hi x.length,.val (.sl false t) (Ym lo hi x)) else none
  | .row r=> match s.rows r with
   | .mk _ .dead _=> none
   | .mk t _ xs=> bif Nat.beq e.size t.size then some (Yi lo hi xs.length,.part r ((lo.map Int.toNat).getD 0) ((hi.map Int.toNat).getD xs.length)) else none
   | _=> none
  | .part r a b=> match s.rows r with
   | .mk _ .dead _=> none
   | .mk t _ _=> bif Nat.beq e.size t.size then some (Yi lo hi (b - a),.part r (a+(lo.map Int.toNat).getD 0) ((hi.map fun h=> a+h.toNat).getD b)) else none
   | _=> none
  | _=> none
 | .arr n e=> match p with
  | .addr (.box b) path=> match s.load (.addr (.box b) path) with
   | some (.val (.arr m t) _)=> bif Nat.beq n m&&Nat.beq e.size t.size then some (Yi lo hi n,.bpart b path ((lo.map Int.toNat).getD 0) ((hi.map Int.toNat).getD n)) else none
   | _=> none
  | _=> none
 | _=> none
def YK3 (s:St):Option Operand->Option (Option Int)
 | none=> some none
 | some x=> match YE3 (s.opd E x) with
  | some n=> some (some n)
  | none=> none
def St.tail (s:St) (t:Ty):PV->Option (List t.den)
 | .val .str (x:List UInt8)=> Ty.cast (.sl false (.int .u8)) (.sl false t) (YL x)
 | p=> s.elems t p
def YH2 (s:St) (d:Nat) (t:Ty):PV->PV->Option (Bool×St)
 | .row r,q=> match s.rows r with
  | .mk u .live xs=> match Ty.cast (.sl false u) (.sl false t) xs,s.tail t q with
   | some ys,some zs=> match (s.setRow r (.mk u .dead xs)).newRow (1024*(d+1)) t (ys++zs) with
    | some s=> some (decide (ys.length+zs.length<=lim),s.put d (.row (1024*(d+1))))
    | none=> none
   | _,_=> none
  | _=> none
 | .nils,q=> match s.tail t q with
  | some ys=> match s.newRow (1024*(d+1)) t ys with
   | some s=> some (decide (ys.length<=lim),s.put d (.row (1024*(d+1))))
   | none=> none
  | none=> none
 | .part r a b,q=> bif Nat.beq a 0&&t.pure then match s.rows r with
  | .mk u .live xs=> match Ty.cast (.sl false u) (.sl false t) xs,s.tail t q with
   | some ys,some zs=> match (s.setRow r (.mk u .dead xs)).newRow (1024*(d+1)) t (List.take b ys++zs) with
    | some s=> some (decide ((List.take b ys).length+zs.length<=lim),s.put d (.row (1024*(d+1))))
    | none=> none
   | _,_=> none
  | _=> none else none
 | _,_=> none
def Yk2 (u:Ty) (n f:Nat):List Step:=match u with
 | .arr _ _=> [.idx f]
 | _=> .inn::Y41 n f
def Yb6 (u:Ty) (n f:Nat):Bool:=match u with
 | .arr k _=> Nat.ble (f+1) k
 | .st _=> Nat.ble (f+1) n
 | _=> false
def YZ2 (t:TypeId) (u:Ty) (s:St):List (Nat×Operand)->PV->Option PV
 | [],p=> some p
 | (f,x)::l,p=> bif Yb6 u (E.nf t) f&&fits (u.at (Yk2 u (E.nf t) f)) (s.opd E x) then match p.set (Yk2 u (E.nf t) f) (s.opd E x) with
  | some q=> YZ2 t u s l q
  | none=> none else none
def Yo2 (t:Ty) (s:St):List (Nat×Operand)->Nat->Option (List t.den×St)
 | [],_=> some ([],s)
 | (j,x)::l,i=> bif Nat.beq i j then
   match Yh t (s.opd E x) s with
   | some (y,s)=> match Yo2 t s l (i+1) with
    | some (ys,s)=> some (y::ys,s)
    | none=> none
   | none=> none
  else none
def YN2 (s:St) (d:Nat) (u:Ty):PV->Option St
 | .val (.int _) n=> match u with
  | .int k=> some (s.put d (.val (.int k) (k.wrap n)))
  | .str=> some (s.put d (.val .str (Yy1 n)))
  | _=> none
 | .val .str (x:List UInt8)=> match u with
  | .str=> some (s.put d (.val .str x))
  | .sl _ (.int .u8)=> (s.newRow (1024*(d+1)) (.int .u8) (YL x)).map (·.put d (.row (1024*(d+1))))
  | .sl _ (.int .i32)=> (s.newRow (1024*(d+1)) (.int .i32) (YD x)).map (·.put d (.row (1024*(d+1))))
  | _=> none
 | _=> none
def YB7:Ty->PV->Bool
 | .sl _ (.int .i32),.val .str (x:List UInt8)=> decide (x.length<=lim)
 | _,_=> true
def Yh4 (s:St) (d:Nat) (e:Ty) (p:PV):Option St:=
 match e with
 | .int .u8=> match s.elems (.int .u8) p with
  | some xs=> some (s.put d (.val .str (Yn xs)))
  | none=> none
 | .int .i32=> match s.elems (.int .i32) p with
  | some xs=> some (s.put d (.val .str (YT2 xs)))
  | none=> none
 | _=> none
def Yhb:List PV->PV
 | []=> .val .unit ()
 | [p]=> p
 | p::q::l=> .mkPair p (Yhb (q::l))
def Yl3:Nat->PV->Option (List PV)
 | 0,_=> some []
 | 1,p=> bif Nat.beq p.size 1&&!p.isAgg then some [p] else none
 | n+2,p=> match Yl3 (n+1) p.snd with
  | some l=> bif Nat.beq p.fst.size 1&&!p.fst.isAgg then some (p.fst::l) else none
  | none=> none
def nth:PV->Nat->PV
 | .tcons a _,0=> a
 | .tcons _ b,n+1=> nth b n
 | _,_=> .undef
def Yt4:PV->Nat->Bool
 | .tcons _ _,0=> true
 | .tcons _ b,n+1=> Yt4 b n
 | _,_=> false
def YR4:List PV->Bool
 | []=> true
 | p::l=> Nat.beq p.size 1&&!p.isAgg&&YR4 l
def ok1 (s:St) (d:Option Nat) (v:PV):Option (Bool×St):=some (true,s.putO d v)
def okB (s:St) (d:Option Nat):Option (Bool×PV)->Option (Bool×St)
 | some (c,v)=> some (c,s.putO d v)
 | none=> none
def okS (x:Option St):Option (Bool×St):=match x with | some s=> some (true,s) | none=> none
def okC (b:Bool) (x:Option St):Option (Bool×St):=match x with | some s=> some (b,s) | none=> none
theorem Y0b {b:Bool} {x:Option St} {s:St} (h:okC b x=some (true,s)):b=true/\x=some s:=by
 cases x with
 | none=> cases h
 | some t=> cases h; exact ⟨rfl,rfl⟩
def YJ2 (s:St) (o:Oper) (b:Builtin) (ts:Array TypeId) (xs:List Operand):Option (Bool×St):=
 match b,xs with
 | .len,[x]=> match ((ts[0]?).bind E.ty).bind fun u=> s.len u (s.opd E x) with
  | some n=> ok1 s o.dst (.val (.int .i64) (n:Int))
  | none=> none
 | .append,[x,y]=> match o.dst,((ts[0]?).bind E.elem).bind E.ty with
  | some d,some t=> match (ts[1]?).bind E.ty with
   | some (.sl _ _)=> YH2 s d t (s.opd E x) (s.opd E y)
   | some .str=> YH2 s d t (s.opd E x) (s.opd E y)
   | _=> none
  | _,_=> none
 | .min,[x,y]=> match s.opd E x,s.opd E y with
  | .val (.int j) a,.val (.int k) b=> match Ty.cast (.int k) (.int j) b with
   | some b=> ok1 s o.dst (.val (.int j) (if (b:Int) < a then b else a))
   | none=> none
  | _,_=> none
 | .max,[x,y]=> match s.opd E x,s.opd E y with
  | .val (.int j) a,.val (.int k) b=> match Ty.cast (.int k) (.int j) b with
   | some b=> ok1 s o.dst (.val (.int j) (if (b:Int) > a then b else a))
   | none=> none
  | _,_=> none
 | .copy,[x,y]=> match ((ts[0]?).bind E.elem).bind E.ty with
  | none=> none
  | some e=> match s.opd E x with
  | .bpart b path lo hi=> match s.boxes b with
   | .cells T .live c=> match c.get path with
    | .val (.arr n t) z=> bif !(Nat.beq e.size t.size) then none else match s.tail t (s.opd E y) with
     | some ys=> match c.set path (.val (.arr n t) (List.take lo z++ys.take (hi - lo)++List.drop (lo+min ys.length (hi - lo)) z)) with
      | some c'=> some (true,(s.setBox b (.cells T .live c')).putO o.dst (.val (.int .i64) ((min ys.length (hi - lo):Nat):Int)))
      | none=> none
     | none=> none
    | _=> none
   | _=> none
  | .row r=> match s.rows r with
   | .mk t .live xs=> bif !(Nat.beq e.size t.size&&t.pure) then none else match s.tail t (s.opd E y) with
    | some ys=> some (true,(s.setRow r (.mk t .live (ys.take xs.length++xs.drop ys.length))).putO o.dst (.val (.int .i64) ((min ys.length xs.length:Nat):Int)))
    | none=> none
   | _=> none
  | _=> none
 | _,_=> none
def Yw (s:St) (o:Oper):Option (Bool×St):=
 match o.op with
 | .move x=> ok1 s o.dst (s.opd E x)
 | .assign x=> ok1 s o.dst (s.opd E x)
 | .pick c a b=> match s.opd E c with
  | .val .bool t=> match t with
   | true=> ok1 s o.dst (s.opd E a)
   | false=> ok1 s o.dst (s.opd E b)
  | _=> none
 | .unOp op _ x=> match unPV op (s.opd E x) with
  | some v=> ok1 s o.dst v
  | none=> none
 | .binOp op t x y _=> okB s o.dst (binPV op (E.ty t) (E.eqs t) (s.opd E x) (s.opd E y))
 | .convert src dst x=> match o.dst,E.ty src,E.ty dst with
  | some d,some (.sl _ e),some .str=> okS (Yh4 s d e (s.opd E x))
  | some d,some _,some u=> okC (YB7 u (s.opd E x)) (YN2 s d u (s.opd E x))
  | _,_,_=> none
 | .index t x i=> match E.ty t,s.opd E x,YE3 (s.opd E i) with
  | some .str,.val .str (l:List UInt8),some n=> some (Ya n l.length,s.putO o.dst (.val (.int .u8) ((l.getD n.toNat 0).toNat:Int)))
  | some (.arr k e),.val (.arr m t) l,some n=> bif Nat.beq k m&&e.same t then some (Ya n m,s.putO o.dst (.val t (List.getD l n.toNat t.zero))) else none
  | _,_,_=> none
 | .indexAddr t x i=> match E.ty t,YE3 (s.opd E i) with
  | some u,some n=> okB s o.dst (Yh2 s u (s.opd E x) n)
  | _,_=> none
 | .load t a=> match s.load (s.opd E a),E.ty t with
  | some v,some u=> bif fits u v then ok1 s o.dst v else none
  | _,_=> none
 | .store t a x=> match E.ty t with
  | some u=> bif fits u (s.opd E x) then okS ((YR3 s (s.opd E a) (s.opd E x)).map (·.putO o.dst .undef)) else none
  | none=> none
 | .alloc t=> match o.dst,E.ty t with
  | some d,some u=> bif fits u (Y31 u) then okS ((s.newBox (1024*(d+1)) (.cells u .live (Y31 u))).map (·.put d (.addr (.box (1024*(d+1))) []))) else none
  | _,_=> none
 | .box t x=> match o.dst,E.ty t with
  | some d,some u=> bif fits u (s.opd E x) then okS ((s.newBox (1024*(d+1)) (.cells u .live (s.opd E x))).map (·.put d (.addr (.box (1024*(d+1))) []))) else none
  | _,_=> none
 | .build t parts=> match E.ty t with
  | some u=> match bif u.isAgg&&fits u (Y31 u) then YZ2 E t u s parts.toList (Y31 u) else none with
   | some v=> bif fits u v then ok1 s o.dst v else none
   | none=> none
  | none=> none
 | .buildSlice t len parts=> match o.dst,(E.elem t).bind E.ty with
  | some d,some u=> bif Nat.beq len parts.size&&Nat.ble (len*u.size) 16777216 then
    match Yo2 E u s parts.toList 0 with
    | some (ys,s)=> okS ((s.newRow (1024*(d+1)) u ys).map (·.put d (.row (1024*(d+1)))))
    | none=> none
   else none
  | _,_=> none
 | .makeSlice t l c=> match o.dst,(E.elem t).bind E.ty,YE3 (s.opd E l),YE3 (s.opd E c) with
  | some d,some u,some n,some m=> bif u.zok&&u.pure then (match s.newRow (1024*(d+1)) u (List.replicate n.toNat u.zero) with
   | some s=> some (decide (0<=n)&&(decide (n<=m)&&decide (m<=lim)),s.put d (.row (1024*(d+1))))
   | none=> none) else none
  | _,_,_,_=> none
 | .fieldAddr t x f=> match s.opd E x,E.ty t with
  | .addr b path,some (.st A)=> match s.tyAt b path with
   | some T=> bif Ty.same (.st A) T&&Nat.ble (f+1) (E.nf t) then ok1 s o.dst (.addr b (path++.inn::Y41 (E.nf t) f)) else none
   | none=> none
  | _,_=> none
 | .field t x f=> match E.ty t with
  | some (.st A)=> bif fits (.st A) (s.opd E x)&&Nat.ble (f+1) (E.nf t) then ok1 s o.dst ((s.opd E x).get (.inn::Y41 (E.nf t) f)) else none
  | _=> none
 | .nilCheck x=> match s.opd E x with
  | .addr b path=> ok1 s o.dst (.addr b path)
  | _=> none
 | .slice t x lo hi none=> match E.ty t,YK3 E s lo,YK3 E s hi with
  | some u,some l,some h=> okB s o.dst (Y82 s u (s.opd E x) l h)
  | _,_,_=> none
 | .extract x i=> bif Yt4 (s.opd E x) i then ok1 s o.dst (nth (s.opd E x) i) else none
 | .range t x=> match E.ty t,o.dst,s.opd E x with
  | some .str,some d,.val .str l=> okS ((s.newBox (1024*(d+1)) (.iter l 0)).map (·.put d (.addr (.box (1024*(d+1))) [])))
  | _,_,_=> none
 | .makeInterface t x=> match E.ty t with
  | some u=> bif fits u (s.opd E x) then ok1 s o.dst (.ifc t (s.opd E x)) else none
  | none=> none
 | .makeFunc fn first caps=> match fn with
  | .func f=> bif Nat.beq first.size 0&&YR4 (caps.toList.map (s.opd E)) then ok1 s o.dst (.cl f caps.size (Yhb (caps.toList.map (s.opd E)))) else none
  | _=> none
 | .call c=> match c.callee with
  | .builtin b=> YJ2 E s o b c.argTypes c.args.toList
  | _=> none
 | _=> none
abbrev CallT:=(f:FuncId)->(E.sig f).arg.den->Option (E.sig f).Out
def YX2:(ts:List Ty)->List PV->St->Option ((tup ts).den×St)
 | [],[],s=> some ((),s)
 | [t],[p],s=> Yh t p s
 | t::u::ts,p::ps,s=> match Yh t p s with
  | some (x,s)=> match YX2 (u::ts) ps s with
   | some (y,s)=> some ((x,y),s)
   | none=> none
  | none=> none
 | _,_,_=> none
def St.lendBack (s:St) (n:Nat) (p:PV):St:=match s.boxes n with
 | .cells T .dead _=> bif fits T p then s.setBox n (.cells T .live p) else s
 | _=> s
def Y44 {R:Type} (a p:PV) (s:St) (k:St->Option R):Option R:=
 match a with
 | .addr (.box n) []=> k (s.lendBack n p)
 | _=> none
def YA1 {R:Type}:(bs:List Ty)->List PV->(id:Nat)->(tup bs).den->St->(St->Option R)->Option R
 | [],[],_,_,s,k=> k s
 | [b],[a],id,x,s,k=> imp b id x s fun p s=> Y44 a p s k
 | b::c::bs,a::l,id,x,s,k=> imp b id x.1 s fun p s=> Y44 a p s fun s=> YA1 (c::bs) l (id+32) x.2 s k
 | _,_,_,_,_,_=> none
def Y01 {R:Type}:(res:List Ty)->(bs:List Ty)->List PV->(id:Nat)->(tup (res++bs)).den->St->(PV->St->Option R)->Option R
 | [],bs,as,id,x,s,k=> YA1 bs as id x s fun s=> k .tnil s
 | [t],[],_,id,x,s,k=> imp t id x s fun p s=> k (.tcons p .tnil) s
 | [t],b::bs,as,id,x,s,k=> imp t id x.1 s fun p s=> YA1 (b::bs) as (id+32) x.2 s fun s=> k (.tcons p .tnil) s
 | t::u::res,bs,as,id,x,s,k=> imp t id x.1 s fun p s=> Y01 (u::res) bs as (id+32) x.2 s fun q s=> k (.tcons p q) s
def single:PV->PV
 | .tcons p .tnil=> p
 | p=> p
def Ya2:List Ty->List PV->List PV
 | .ptr _::ts,p::ps=> p::Ya2 ts ps
 | _::ts,_::ps=> Ya2 ts ps
 | _,_=> []
inductive Ex where
 | normal
 | exit (id:Nat)
 | ret
 | pan (i:TypeId) (t:Ty) (x:t.den)
def YX1 {α:Type}:(g:Sig)->g.Out->((i:TypeId)->(t:Ty)->t.den->α)->(g.good.den->α)->α
 | ⟨_,_,none⟩,y,_,k=> k y
 | ⟨_,_,some (i,t)⟩,y,p,k=> match y with
  | .inl x=> p i t x
  | .inr z=> k z
def Y9h:(g:Sig)->g.good.den->g.Out
 | ⟨_,_,none⟩,y=> y
 | ⟨_,_,some _⟩,y=> .inr y
def Y8b:(g:Sig)->(i:TypeId)->(t:Ty)->t.den->Option g.Out
 | ⟨_,_,none⟩,_,_,_=> none
 | ⟨_,_,some (j,u)⟩,i,t,x=> match Yc5 i j,Ty.cast t u x with
  | some _,some z=> some (.inl z)
  | _,_=> none
inductive Item where
 | code (c:Code)
 | inBlock (id:Nat)
 | inScope
 | inLoop (c:Code)
 | join (live:Live)
 | branch (c:Operand) (x y:Code)
abbrev JumpT (R:Type):=List Item->St->Option R
def Y25:Code->Nat
 | .region id _ _=> id
 | .seq a _=> Y25 a
 | .block _ a=> Y25 a
 | .scope a=> Y25 a
 | .loop a=> Y25 a
 | _=> 0
def Yz7:Operand->Nat
 | .tmp t=> t
 | _=> 0
def Y7:List (Nat×PV)->Nat->PV
 | [],_=> .undef
 | (t,v)::l,n=> bif Nat.beq n t then v else Y7 l n
def Yd:List RowE->Nat->RowE
 | [],_=> .none
 | e::l,n=> match n with
  | 0=> e
  | n+1=> Yd l n
def Yc:List BoxE->Nat->BoxE
 | [],_=> .none
 | e::l,n=> match n with
  | 0=> e
  | n+1=> Yc l n
def Yka (s:St) (t:Nat):Conv->Option St
 | .keep=> some s
 | .frz=> match s.slots t with
  | .val _ _=> some s
  | .row r=> match s.rows r with
   | .mk _ .dead _=> none
   | .mk u _ xs=> bif u.pure then some ((s.freezeRow r).put t (.val (.sl false u) xs)) else none
   | _=> none
  | .part r lo hi=> match s.rows r with
   | .mk _ .dead _=> none
   | .mk u _ xs=> bif u.pure then some ((s.freezeRow r).put t (.val (.sl false u) ((xs.take hi).drop lo))) else none
   | _=> none
  | _=> none
 | .row u=> match s.slots t with
  | .row _=> some s
  | .nils=> (s.newRow (1024*(t+1)+1) u []).map (·.put t (.row (1024*(t+1)+1)))
  | .part r 0 hi=> match s.rows r with
   | .mk u .live xs=> bif u.pure then ((s.setRow r (.mk u .dead xs)).newRow (1024*(t+1)+1) u (xs.take hi)).map (·.put t (.row (1024*(t+1)+1))) else none
   | _=> none
  | _=> none
def YA7:Live->St->Option St
 | [],s=> some s
 | (t,c)::l,s=> match Yka s t c with
  | some s=> YA7 l s
  | none=> none
structure Met where
 rows:List Nat
 boxes:List Nat
def Met.row (m:Met) (r:Nat):Met:=bif m.rows.any (Nat.beq r) then m else { m with rows:=m.rows++[r] }
def Met.box (m:Met) (b:Nat):Met:={ m with boxes:=m.boxes++[b] }
def Yw2 (s:St):Nat->PV->Met->Met
 | 0,_,m=> m
 | n+1,p,m=> match p with
  | .pair a b=> Yw2 s n b (Yw2 s n a m)
  | .tcons a b=> Yw2 s n b (Yw2 s n a m)
  | .st a=> Yw2 s n a m
  | .cl _ _ a=> Yw2 s n a m
  | .ifc _ a=> Yw2 s n a m
  | .row r=> m.row r
  | .part r _ _=> m.row r
  | .addr (.row r _) _=> m.row r
  | .addr (.box b) _=> bif m.boxes.any (Nat.beq b) then m else match s.boxes b with
   | .cells _ _ c=> Yw2 s n c (m.box b)
   | _=> m.box b
  | .bpart b _ _ _=> bif m.boxes.any (Nat.beq b) then m else match s.boxes b with
   | .cells _ _ c=> Yw2 s n c (m.box b)
   | _=> m.box b
  | _=> m
def place (n:Nat):List Nat->Option Nat
 | []=> none
 | m::l=> bif Nat.beq n m then some 0 else match place n l with
  | some k=> some (k+1)
  | none=> none
def Yn8 (m:Met):Base->Option Base
 | .box b=> match place b m.boxes with
  | some k=> some (.box k)
  | none=> none
 | .row r i=> match place r m.rows with
  | some k=> some (.row k i)
  | none=> none
 | .fbox t x=> some (.fbox t x)
def YC (m:Met):PV->Option PV
 | .pair a b=> match YC m a,YC m b with
  | some a,some b=> some (.pair a b)
  | _,_=> none
 | .tcons a b=> match YC m a,YC m b with
  | some a,some b=> some (.tcons a b)
  | _,_=> none
 | .st a=> match YC m a with
  | some a=> some (.st a)
  | none=> none
 | .cl f n a=> match YC m a with
  | some a=> some (.cl f n a)
  | none=> none
 | .ifc t a=> match YC m a with
  | some a=> some (.ifc t a)
  | none=> none
 | .row r=> match place r m.rows with
  | some k=> some (.row k)
  | none=> none
 | .part r lo hi=> match place r m.rows with
  | some k=> some (.part k lo hi)
  | none=> none
 | .addr b path=> match Yn8 m b with
  | some b=> some (.addr b path)
  | none=> none
 | .bpart b path lo hi=> match place b m.boxes with
  | some k=> some (.bpart k path lo hi)
  | none=> none
 | p=> some p
def Yp8 (m:Met) (s:St):Live->Option (List (Nat×PV))
 | []=> some []
 | (t,_)::l=> match YC m (s.slots t),Yp8 m s l with
  | some v,some vs=> some ((t,v)::vs)
  | _,_=> none
def Ym5 (m:Met) (s:St):List Nat->Option (List BoxE)
 | []=> some []
 | b::l=> match s.boxes b,Ym5 m s l with
  | .cells T v c,some es=> match YC m c with
   | some c=> some (.cells T v c::es)
   | none=> none
  | .iter x n,some es=> some (.iter x n::es)
  | _,_=> none
def Yz3:List Nat->Bool
 | []=> true
 | n::l=> !l.any (Nat.beq n)&&Yz3 l
def norm (live:Live) (s:St):Option St:=
 match YA7 live s with
 | none=> none
 | some s=>
  let m:=live.foldl (fun m x=> Yw2 s 16 (s.slots x.1) m) ⟨[],[]⟩
  match Yz3 m.rows&&Yz3 m.boxes,Yp8 m s live,Ym5 m s m.boxes with
  | true,some sl,some bx=> some ⟨Y7 sl,Yc bx,Yd (m.rows.map s.rows)⟩
  | _,_,_=> none
section ctl
variable {R:Type} (jump:JumpT R) (call:CallT E) (N:FuncId)
def Yb2 (s:St) (dst:Option Nat) (f:FuncId) (ps:List PV) (π:Ex->St->Option R) (κ:St->Option R):Option R:=
 match YX2 (E.sig f).args ps s with
 | none=> none
 | some (x,s')=> (call f x).bind fun y=> YX1 (E.sig f) y (fun i t x=> π (.pan i t x) s') fun z=>
  Y01 (E.sig f).res (E.sig f).backs (Ya2 (E.sig f).args ps) (1024*(dst.getD 0+1)+2) z (bif (E.sig f).leaks then s' else s.thaw s') fun v s=> κ (s.putO dst (single v))
def YZ1 (s:St) (o:Oper) (κ:St->Option R):Option R:=
 match Yw E s o with
 | some (c,s')=> match c with
  | true=> κ s'
  | false=> none
 | none=> none
def Ty.calm:Ty->Bool
 | .pair a b=> a.calm&&b.calm
 | .st a=> a.calm
 | .sl own a=> !own&&a.pure
 | .ptr _=> false
 | .optr _=> false
 | .clo _ _ a=> a.calm
 | _=> true
def Ye4 (f:FuncId):Bool:=(E.sig f).args.all Ty.calm&&(E.vars f).isEmpty
def YNa:Operand->Bool
 | .func _=> true
 | _=> false
def opC (s:St) (o:Oper) (π:Ex->St->Option R) (κ:St->Option R):Option R:=
 match o.op with
 | .call c=> match c.callee with
  | .value x=> match s.opd E x with
   | .cl f n caps=> match Yl3 n caps,(E.goes f&&(YNa x||Ye4 E f)) with
    | some l,true=> Yb2 E call s o.dst (E.vary f (c.args.toList.map (s.opd E)++l)) (c.args.toList.map (s.opd E)++l) π κ
    | _,_=> none
   | _=> none
  | _=> YZ1 E s o κ
 | .next x true=> match s.opd E x with
  | .addr (.box b) []=> match s.boxes b with
   | .iter l n=> match decide (n < l.length) with
    | true=> κ ((s.setBox b (.iter l (n+(Yx l n).2))).putO o.dst
      (.tcons (.val .bool true) (.tcons (.val (.int .i64) (n:Int)) (.tcons (.val (.int .i32) ((Yx l n).1:Int)) .tnil))))
    | false=> κ (s.putO o.dst (.tcons (.val .bool false) .tnil))
   | _=> none
  | _=> none
 | .panic x=> match s.opd E x with
  | .ifc i p=> match E.ty i with
   | some t=> match Yo t p with
    | some x=> π (.pan i t x) s
    | none=> none
   | none=> none
  | _=> none
 | _=> YZ1 E s o κ
def opsC (ops:Array Oper):List Oper->St->(Ex->St->Option R)->Option R
 | [],s,κ=> κ .normal s
 | o::os,s,κ=> match o.guard with
  | none=> opC E call s o κ fun s=> opsC ops os s κ
  | some (g,want)=> match (ops[g]?).bind (·.dst) with
   | none=> none
   | some d=> match s.slots d with
    | .val .bool b=> match b,want with
     | true,true=> opC E call (s.put d (.val .bool true)) o κ fun s=> opsC ops os s κ
     | true,false=> opsC ops os ((s.put d (.val .bool true)).putO o.dst .tnil) κ
     | false,false=> opC E call (s.put d (.val .bool false)) o κ fun s=> opsC ops os s κ
     | false,true=> opsC ops os ((s.put d (.val .bool false)).putO o.dst .tnil) κ
    | .tnil=> opsC ops os (s.putO o.dst .tnil) κ
    | _=> none
def Yf3 (ops:Array Oper) (l:List Nat):List Oper:=l.filterMap fun i=> ops[i]?
def execC:Code->St->(Ex->St->Option R)->List Item->Option R
 | .skip,s,κ,_=> κ .normal s
 | .region id ops draw,s,κ,_=> match draw with
  | false=> opsC E call ops ops.toList s κ
  | true=> match E.ord N id with
   | some l=> opsC E call ops (Yf3 ops l) s κ
   | none=> none
 | .seq a b,s,κ,r=> execC a s (fun e s=> match e with
   | .normal=> execC b s κ r
   | e=> κ e s) (.code b::r)
 | .cond c x y,s,κ,r=> match E.ann N (3*Yz7 c+1) with
  | some l=> match norm l s with
   | some s=> jump (.branch c x y::r) s
   | none=> none
  | none=> match E.ann N (3*Yz7 c+2) with
   | some l=> branchC s (s.opd E c) (fun s κ r=> execC x s κ r) (fun s κ r=> execC y s κ r) (fun e s=> match e with
     | .normal=> match norm l s with
      | some s=> jump r s
      | none=> none
     | e=> κ e s) (.join l::r)
   | none=> branchC s (s.opd E c) (fun s κ r=> execC x s κ r) (fun s κ r=> execC y s κ r) κ r
 | .block id b,s,κ,r=> execC b s (fun e s=> match e with
   | .exit i=> bif Nat.beq i id then κ .normal s else κ (.exit i) s
   | e=> κ e s) (.inBlock id::r)
 | .scope b,s,κ,r=> execC b s κ (.inScope::r)
 | .loop b,s,_,r=> match E.ann N (3*Y25 b) with
  | some l=> match norm l s with
   | some s=> jump (.inLoop b::r) s
   | none=> none
  | none=> none
 | .exit id,s,κ,_=> κ (.exit id) s
 | .ret,s,κ,_=> κ .ret s
 | _,_,_,_=> none
 where branchC (s:St) (p:PV) (x y:St->(Ex->St->Option R)->List Item->Option R) (κ:Ex->St->Option R) (r:List Item):Option R:=
 match p with
 | .val .bool b=> match b with
  | true=> x s κ r
  | false=> y s κ r
 | _=> none
def YS4 (c:Operand) (x y:Code) (s:St) (κ:Ex->St->Option R) (r:List Item):Option R:=
 match E.ann N (3*Yz7 c+2) with
 | some l=> match s.opd E c with
  | .val .bool b=> match b with
   | true=> execC E jump call N x s (fun e s=> match e with
    | .normal=> match norm l s with
     | some s=> jump r s
     | none=> none
    | e=> κ e s) (.join l::r)
   | false=> execC E jump call N y s (fun e s=> match e with
    | .normal=> match norm l s with
     | some s=> jump r s
     | none=> none
    | e=> κ e s) (.join l::r)
  | _=> none
 | none=> match s.opd E c with
  | .val .bool b=> match b with
   | true=> execC E jump call N x s κ r
   | false=> execC E jump call N y s κ r
  | _=> none
def Y91 (fin:Ex->St->Option R):List Item->Ex->St->Option R
 | [],e,s=> fin e s
 | .code c::r,.normal,s=> execC E jump call N c s (Y91 fin r) r
 | .code _::r,e,s=> Y91 fin r e s
 | .inBlock id::r,.exit i,s=> bif Nat.beq i id then Y91 fin r .normal s else Y91 fin r (.exit i) s
 | .inBlock _::r,e,s=> Y91 fin r e s
 | .inScope::r,e,s=> Y91 fin r e s
 | .inLoop b::r,.normal,s=> match E.ann N (3*Y25 b) with
  | some l=> match norm l s with
   | some s=> jump (.inLoop b::r) s
   | none=> none
  | none=> none
 | .inLoop _::r,e,s=> Y91 fin r e s
 | .join l::r,.normal,s=> match norm l s with
  | some s=> jump r s
  | none=> none
 | .join _::r,e,s=> Y91 fin r e s
 | .branch _ _ _::_,_,_=> none
def topF (fin:Ex->St->Option R):List Item->St->Option R
 | .inLoop b::r,s=> execC E jump call N b s (Y91 E jump call N fin (.inLoop b::r)) (.inLoop b::r)
 | .branch c x y::r,s=> YS4 E jump call N c x y s (Y91 E jump call N fin r) r
 | r,s=> Y91 E jump call N fin r .normal s
end ctl
def Yh5:(bs:List Ty)->List PV->St->Option (tup bs).den
 | [],[],_=> some ()
 | [b],[a],s=> match Yh (.ptr b) a s with
  | some (x,_)=> some x
  | none=> none
 | b::c::bs,a::l,s=> match Yh (.ptr b) a s with
  | some (x,s)=> match Yh5 (c::bs) l s with
   | some y=> some (x,y)
   | none=> none
  | none=> none
 | _,_,_=> none
def YY1:(res:List Ty)->(bs:List Ty)->List PV->List PV->St->Option (tup (res++bs)).den
 | [],bs,[],l,s=> Yh5 bs l s
 | [t],[],[p],[],s=> match Yh t p s with
  | some (x,_)=> some x
  | none=> none
 | [t],b::bs,[p],l,s=> match Yh t p s with
  | some (x,s)=> match Yh5 (b::bs) l s with
   | some y=> some (x,y)
   | none=> none
  | none=> none
 | t::u::res,bs,p::ps,l,s=> match Yh t p s with
  | some (x,s)=> match YY1 (u::res) bs ps l s with
   | some y=> some (x,y)
   | none=> none
  | none=> none
 | _,_,_,_,_=> none
def Yp5 (s:St):List ResultVar->Option (List PV)
 | []=> some []
 | .tmp t::l=> match Yp5 s l with
  | some ps=> some (s.slots t::ps)
  | none=> none
 | .cell a t::l=> match s.load (s.slots a),E.ty t,Yp5 s l with
  | some p,some u,some ps=> bif fits u p then some (p::ps) else none
  | _,_,_=> none
def YJ7 (i:Nat):Nat:=1024*1024*1024+1024*i
def YK6:List Ty->Nat->St->List PV
 | [],_,_=> []
 | .ptr _::ts,i,s=> s.slots i::YK6 ts (i+1) s
 | _::ts,i,s=> YK6 ts (i+1) s
def YX5 (N:FuncId) (rs:List ResultVar) (s:St):Option (E.sig N).Out:=
 match Yp5 E s rs with
  | some ps=> match YY1 (E.sig N).res (E.sig N).backs ps (YK6 (E.sig N).args 0 s) s with
   | some y=> some (Y9h (E.sig N) y)
   | none=> none
  | none=> none
def Yk4 (N:FuncId) (rs:List ResultVar):Ex->St->Option (E.sig N).Out
 | .exit _,_=> none
 | .pan i t x,s=> match E.grd N with
  | none=> Y8b (E.sig N) i t x
  | some G=> match G.pan i t x (s.only G.caps) with
   | some s=> YX5 E N rs s
   | none=> none
 | _,s=> YX5 E N rs s
def Yl4 {R:Type}:(ts:List Ty)->(i:Nat)->(tup ts).den->St->(St->Option R)->Option R
 | [],_,_,s,k=> k s
 | [t],i,x,s,k=> imp t (YJ7 i) x s fun p s=> k (s.put i p)
 | t::u::ts,i,x,s,k=> imp t (YJ7 i) x.1 s fun p s=> Yl4 (u::ts) (i+1) x.2 (s.put i p) k
def St.empty:St:=⟨fun _=> .undef,fun _=> .none,fun _=> .none⟩
def YR2 (N:FuncId):List ResultVar:=
 match E.P.funcs[E.code N]? with
 | some fn=> fn.results.toList
 | none=> []
def YU1:List Ty->Nat->Bool
 | .ptr _::_,0=> true
 | _::ts,k+1=> YU1 ts k
 | _,_=> false
def Yta (ts:List Ty) (hi:Nat) (o:Oper):Bool:=match o.dst with
 | none=> true
 | some k=> !YU1 ts k&&Nat.ble (k+1) hi
inductive Kind where
 | quiet | soft | firm | hard
def Y2h (src dst:TypeId):Bool:=match E.ty src,E.ty dst with
 | some (.int _),some (.int _)=> true
 | _,_=> false
def YD2 (o:Op):Bool:=match o with
 | .move _=> true
 | .assign _=> true
 | .pick _ _ _=> true
 | .unOp _ _ _=> true
 | .binOp _ _ _ _ _=> true
 | .index _ _ _=> true
 | .indexAddr _ _ _=> true
 | .load _ _=> true
 | .fieldAddr _ _ _=> true
 | .field _ _ _=> true
 | .nilCheck _=> true
 | .slice _ _ _ _ none=> true
 | .extract _ _=> true
 | .build _ _=> true
 | .makeInterface _ _=> true
 | .makeFunc _ _ _=> true
 | .convert src dst _=> Y2h E src dst
 | .call c=> match c.callee with
  | .builtin b=> match b with
   | .len=> true
   | .min=> true
   | .max=> true
   | _=> false
  | _=> false
 | _=> false
def Yn2 (o:Op):Bool:=match o with
 | .load _ _=> false
 | .indexAddr _ _ _=> false
 | .fieldAddr _ _ _=> false
 | .slice _ _ _ _ _=> false
 | .call c=> match c.callee with
  | .builtin b=> match b with
   | .len=> false
   | _=> true
  | _=> true
 | _=> true
def Yz1 (o:Op):Bool:=match o with
 | .store _ _ _=> true
 | .call c=> match c.callee with
  | .builtin b=> match b with
   | .append=> true
   | _=> false
  | _=> false
 | _=> false
def Yt1 (o:Op):Bool:=match o with
 | .call c=> match c.callee with
  | .value x=> match x with
   | .func f=> Ye4 E f
   | _=> true
  | _=> false
 | _=> false
def Ty.flat:Ty->Bool
 | .int _=> true
 | .bool=> true
 | .str=> true
 | .unit=> true
 | .pair a b=> a.flat&&b.flat
 | .st a=> a.flat
 | .arr _ a=> a.flat
 | _=> false
def YZ5 (f:FuncId):Bool:=(E.sig f).args.all Ty.flat&&((E.sig f).res.all Ty.flat&&((E.sig f).pan.isNone&&(E.vars f).isEmpty))
def YY5 (o:Op):Bool:=match o with
 | .call c=> match c.callee with
  | .value x=> match x with
   | .func f=> YZ5 E f
   | _=> false
  | _=> false
 | _=> false
def Yk1 (o:Op):Bool:=match o with
 | .alloc _=> true
 | .box _ _=> true
 | .convert _ _ _=> true
 | .range _ _=> true
 | .buildSlice t _ _=> match (E.elem t).bind E.ty with
  | some u=> u.calm
  | none=> false
 | _=> false
def Yf5 (o:Op):Kind:=bif YD2 E o||YY5 E o then .quiet else bif Yt1 E o||Yk1 E o then .soft else bif Yz1 o then .firm else .hard
def Yq4 (acc:List Nat) (o:Oper):Nat:=o.after.toList.foldl (fun s e=> bif Region.binds .any e then Nat.lor (Nat.lor s (Nat.pow 2 e.on)) (acc.getD e.on 0) else s) 0
def Yr4:List Oper->List Nat->List Nat
 | [],acc=> acc
 | o::os,acc=> Yr4 os (acc++[Yq4 acc o])
def YJ3 (ops:List Oper):List Nat:=Yr4 ops []
def Y98 (l:List Operand):List Nat:=l.filterMap fun | .tmp t=> some t | _=> none
def Yq1 (ops:Array Oper) (o:Oper):List Nat:=match o.guard with
 | none=> Y98 o.op.operands.toList
 | some (g,_)=> match (ops[g]?).bind (·.dst) with
  | some d=> d::Y98 o.op.operands.toList
  | none=> Y98 o.op.operands.toList
def YA3:Option Nat->List Nat->Bool
 | some a,l=> l.any (Nat.beq a)
 | none,_=> false
def Ym2 (ops:Array Oper) (o:Oper):Kind:=match o.op with
 | .assign _=> bif ops.toList.any fun p=> YA3 o.dst (Yq1 ops p) then .hard else .quiet
 | op=> Yf5 E op
structure Row where
 i:Nat
 kind:Kind
 mask:Nat
 dst:Option Nat
 looks:List Nat
 still:Bool
def YA4 (ops:Array Oper) (ms:List Nat):List Oper->Nat->List Row
 | [],_=> []
 | o::os,i=> ⟨i,Ym2 E ops o,ms.getD i 0,o.dst,Yq1 ops o,Yn2 o.op⟩::YA4 ops ms os (i+1)
def Ys2 (m i:Nat):Bool:=Nat.testBit m i
def Yq5:Option Nat->Option Nat->Bool
 | some a,some b=> Nat.beq a b
 | _,_=> false
def Yj2 (x y:Row):Bool:=
 !Ys2 x.mask y.i&&(match x.kind,y.kind with
 | .quiet,.quiet=> !Yq5 x.dst y.dst&&((!YA3 x.dst y.looks||Ys2 y.mask x.i)&&!YA3 y.dst x.looks)
 | .quiet,.soft=> !Yq5 x.dst y.dst&&((!YA3 x.dst y.looks||Ys2 y.mask x.i)&&!YA3 y.dst x.looks)
 | .quiet,.firm=> bif x.still then !Yq5 x.dst y.dst&&((!YA3 x.dst y.looks||Ys2 y.mask x.i)&&!YA3 y.dst x.looks) else Ys2 y.mask x.i
 | .hard,_=> Ys2 y.mask x.i
 | _,.hard=> Ys2 y.mask x.i
 | _,_=> !Yq5 x.dst y.dst&&(Ys2 y.mask x.i&&!YA3 y.dst x.looks))
def Yj8:List Row->Bool
 | []=> true
 | x::l=> l.all (Yj2 x)&&Yj8 l
def YS5:List Row->Nat->Bool
 | [],_=> true
 | x::l,m=> Nat.beq (Nat.lor x.mask m) m&&YS5 l (Nat.lor m (Nat.pow 2 x.i))
def Yn6 (x:Row):Bool:=match x.kind with
 | .hard=> true
 | _=> !YA3 x.dst x.looks
def Ysa (ops:Array Oper) (l:List Nat):Bool:=
 let rs:=YA4 E ops (YJ3 ops.toList) ops.toList 0
 let rl:=l.filterMap fun i=> rs[i]?
 Nat.beq l.length ops.size&&(Nat.beq rl.length ops.size&&(Yj8 rl&&(YS5 rl 0&&(rl.all Yn6&&(Yz3 l&&(List.range ops.size).all fun i=> l.any (Nat.beq i))))))
def Ye1 (ok:Nat->Array Oper->Bool) (lo:List Ty) (hi:Nat):Code->Bool
 | .region id ops draw=> ops.toList.all (Yta lo hi)&&match draw with
  | true=> ok id ops
  | false=> true
 | .seq a b=> Ye1 ok lo hi a&&Ye1 ok lo hi b
 | .cond _ x y=> Ye1 ok lo hi x&&Ye1 ok lo hi y
 | .block _ b=> Ye1 ok lo hi b
 | .scope b=> Ye1 ok lo hi b
 | .loop b=> Ye1 ok lo hi b
 | _=> true
def Ya1 (N:FuncId) (id:Nat) (ops:Array Oper):Bool:=match E.ord N id with
 | some l=> Ysa E ops l
 | none=> false
def Yoa (ops:List Oper):Option (List Oper×Nat):=
 match ops.reverse with
 | o::l=> match o.guard,o.dst,o.op with
  | none,none,.defer c=> match c.callee with
   | .value x=> match x with
    | .tmp k=> bif c.args.isEmpty then some (l.reverse,k) else none
    | _=> none
   | _=> none
  | _,_,_=> none
 | []=> none
def YQ4 (s:St):List Nat->List PV->Bool
 | [],[]=> true
 | k::ks,.addr (.box b) []::ps=> (match s.slots k with
  | .addr (.box c) []=> Nat.beq b c
  | _=> false)&&YQ4 s ks ps
 | _,_=> false
def YU5 (cs:List Nat) (o:Oper):Bool:=match o.dst with
 | none=> true
 | some k=> !cs.any (Nat.beq k)
def YQ1 (p:Oper->Bool):Code->Bool
 | .region _ ops _=> ops.toList.all p
 | .seq a b=> YQ1 p a&&YQ1 p b
 | .cond _ x y=> YQ1 p x&&YQ1 p y
 | .block _ b=> YQ1 p b
 | .scope b=> YQ1 p b
 | .loop b=> YQ1 p b
 | _=> true
def Yv5 {R:Type} (jump:JumpT R) (c:Code) (s:St):Option Guard->Option R
 | none=> jump [.code c] s
 | some G=> match c with
  | .seq x rest=> match x with
   | .region _ ops draw=> bif !draw&&YQ1 (YU5 G.caps) rest then match Yoa ops.toList with
    | some (pre,k)=> opsC E (fun _ _=> none) ops pre s fun e s=> match e with
     | .normal=> match s.slots k with
      | .cl g n p=> match Yl3 n p with
       | some l=> bif Nat.beq g G.clo&&YQ4 s G.caps l then jump [.code rest] s else none
       | none=> none
      | _=> none
     | _=> none
    | none=> none else none
   | _=> none
  | _=> none
def Yr2 (jump:(N:FuncId)->JumpT (E.sig N).Out) (f:FuncId) (x:(E.sig f).arg.den):Option (E.sig f).Out:=
 match E.prim f with
 | some g=> g x
 | none=> match E.P.funcs[E.code f]? with
  | some fn=> match fn.body with
   | some c=> match Ye1 (Ya1 E f) (E.sig f).args ((E.sig f).args.length+(fn.ntmps - (E.sig f).args.length)) c with
    | true=> Yl4 (E.sig f).args 0 x St.empty fun s=> Yv5 E (jump f) c s (E.grd f)
    | false=> none
   | none=> none
  | none=> none
def run:Nat->(N:FuncId)->JumpT (E.sig N).Out
 | 0,_,_,_=> none
 | k+1,N,r,s=> topF E (run k N) (Yr2 E (run k)) N (Yk4 E N (YR2 E N)) r s
end eval
open Classical in
noncomputable def Y76 {α:Type} (F:Nat->Option α):Option α:=if h:∃ r,∃ k,F k=some r then some (Classical.choose h) else none
variable (E:Env)
noncomputable def Run (N:FuncId) (r:List Item) (s:St):Option (E.sig N).Out:=Y76 fun k=> run E k N r s
noncomputable def Call (f:FuncId) (x:(E.sig f).arg.den):Option (E.sig f).Out:=Yr2 E (Run E) f x
def YI3 {α:Type} (d:α) (n:Nat):List (Nat×α)->α
 | []=> d
 | (m,x)::l=> bif Nat.beq n m then x else YI3 d n l
def YH3 {α:Type} (n:Nat):List (Nat×α)->Option α
 | []=> none
 | (m,x)::l=> bif Nat.beq n m then some x else YH3 n l
def YUg {α:Type} (n k:Nat) (l:List (Nat×List (Nat×α))):Option α:=match YH3 n l with
 | some l=> YH3 k l
 | none=> none
def YX3:List Int:=List.replicate 128 240++List.replicate 66 241++List.replicate 30 2++[19]++List.replicate 12 3++[35]++List.replicate 2 3++[52]++List.replicate 3 4++[68]++List.replicate 11 241
def YW3:List (Int×Int):=[(128,191),(160,191),(128,159),(144,191),(128,143)]++List.replicate 11 (0,0)
def Ye:List (Nat×BoxE)->Nat->BoxE
 | [],_=> .none
 | (m,e)::l,n=> bif Nat.beq n m then e else Ye l n
def Yf:List (Nat×RowE)->Nat->RowE
 | [],_=> .none
 | (m,e)::l,n=> bif Nat.beq n m then e else Yf l n
def noFn:Σ g:Sig,Option (g.arg.den->Option g.Out):=⟨⟨[],[],none⟩,none⟩
def YD4 (ann:Nat->Option Live):Code->List Nat->List Item->List Item
 | c,[],r=> .code c::r
 | .seq a b,0::p,r=> YD4 ann a p (.code b::r)
 | .seq _ b,_::p,r=> YD4 ann b p r
 | .block id c,_::p,r=> YD4 ann c p (.inBlock id::r)
 | .scope c,_::p,r=> YD4 ann c p (.inScope::r)
 | .loop c,7::_,r=> .inLoop c::r
 | .loop c,_::p,r=> YD4 ann c p (.inLoop c::r)
 | .cond c x y,8::_,r=> .branch c x y::r
 | .cond _ _ _,9::_,r=> r
 | .cond c x y,i::p,r=> YD4 ann (match i with | 0=> x | _=> y) p (match ann (3*Yz7 c+2) with
  | some l=> .join l::r
  | none=> r)
 | c,_,r=> .code c::r
def Env.at (N:FuncId) (p:List Nat):List Item:=
 match E.P.funcs[E.code N]? with
 | some fn=> match fn.body with
  | some c=> YD4 (E.ann N) c p []
  | none=> []
 | none=> []
def Yeu:=@decide_eq_true
def Yfu:=@decide_eq_false
def Ygu:=@cond_true
def Yhu:=@cond_false
def Yiu:=@Option.bind_some
def Yju:=@if_neg
def Yku:=@if_pos
def Ylu:=@Bool.and_eq_true
def Ymu:=@Int.toNat_natCast
def Ynu:=@List.length_cons
def You:=@List.length_append
def Ypu:=@List.append_assoc
def Yqu:=@beq_eq_false_iff_ne
def Yru:=@List.drop_eq_getElem_cons
def Ysu:=@List.length_nil
def Ytu:=@Option.some.injEq
def Yuu:=@List.mem_cons
def Yvu:=@List.getD_eq_getElem?_getD
def Ywu:=@List.getElem?_eq_getElem
def Yxu:=@decide_eq_true_eq
def Yyu:=@List.length_take
def Yzu:=@List.length_drop
def YAu:=@List.mem_append
def YBu:=@List.map_cons
def YCu:=@Bool.false_or
def YDu:=@Bool.true_or
def YEu:=@Bool.not_true
def YFu:=@Bool.not_false
def YGu:=@Nat.lt_irrefl
def YHu:=@List.append_nil
def YIu:=@List.nil_append
def YJu:=@Prod.mk.injEq
def YKu:=@Option.map_eq_some_iff
def YLu:=@Option.bind_eq_some_iff
def YMu:=@Int.tdiv_eq_ediv_of_nonneg
def YNu:=@List.mem_singleton
def YOu:=@Nat.eq_of_beq_eq_true
def YPu:=@List.drop_eq_nil_of_le
def YQu:=@of_decide_eq_true
def YRu:=@List.eq_nil_of_length_eq_zero
def YSu:=@Bool.false_eq_true
def YTu:=@Nat.mul_le_mul_right
def YUu:=@List.drop_length
def YVu:=@List.length_map
def YWu:=@List.take_of_length_le
def YXu:=@Bool.not_eq_true'
def YYu:=@Array.length_toList
def YZu:=@List.drop_zero
def Y0v:=@List.mem_cons_of_mem
def Y1v:=@Array.getElem?_eq_getElem
def Y2v:=@Nat.zero_add
def Y3v:=@List.all_eq_true
def Y4v:=@Array.getElem?_toList
def Y5v:=@Bool.true_and
def Y6v:=@Int.eq_ofNat_of_zero_le
def Y7v:=@beq_iff_eq
def Y8v:=@List.length_singleton
def Y9v:=@Bool.and_eq_false_iff
def Yav:=@Nat.add_sub_cancel
def Ybv:=@List.take_append_drop
def Ycv:=@List.getElem?_append_right
def Ydv:=@List.pairwise_cons
def Yev:=@List.pairwise_append
def Yfv:=@List.nodup_cons
def Ygv:=@Nat.mul_comm
def Yhv:=@Option.isSome_iff_exists
end Go.Abs
namespace Go.Abs
theorem Ym4 (t:Ty):∀ (id:Nat) (x:t.den) (s:St),∃ o:Option (PV×St),∀ {R:Type} (k:PV->St->Option R),imp t id x s k=o.bind fun q=> k q.1 q.2:=by
 induction t with
 | pair a b iha ihb=>
  intro id x s
  cases h:(a.pure&&b.pure) with
  | true=> exact ⟨some (.val (.pair a b) x,s),fun k=> by simp [imp,h]⟩
  | false=>
   obtain ⟨o,ho⟩:=iha (2*id) x.1 s
   cases o with
   | none=> exact ⟨none,fun k=> by simp [imp,h,ho]⟩
   | some q=>
    obtain ⟨o',ho'⟩:=ihb (2*id+1) x.2 q.2
    exact ⟨o'.map fun q'=> (.mkPair q.1 q'.1,q'.2),fun k=> by simp [imp,h,ho,ho',Option.bind_map,Function.comp_def]⟩
 | st a iha=>
  intro id x s
  cases h:a.pure with
  | true=> exact ⟨some (.val (.st a) x,s),fun k=> by simp [imp,h]⟩
  | false=>
   obtain ⟨o,ho⟩:=iha (2*id) x s
   exact ⟨o.map fun q=> (.mkSt q.1,q.2),fun k=> by simp [imp,h,ho,Option.bind_map,Function.comp_def]⟩
 | sl own a _=>
  intro id x s
  cases own with
  | true=>
   cases h:s.newRow id a x with
   | none=> exact ⟨none,fun k=> by simp [imp,h]⟩
   | some s'=> exact ⟨some (.row id,s'),fun k=> by simp [imp,h]⟩
  | false=>
   cases h:(Ty.sl false a).pure with
   | true=> exact ⟨some (.val _ x,s),fun k=> by simp only [imp,h,Ygu,Yiu]⟩
   | false=> exact ⟨none,fun k=> by simp only [imp,h,Yhu,Option.bind_none]⟩
 | ptr a iha=>
  intro id x s
  obtain ⟨o,ho⟩:=iha (2*id) x s
  cases o with
  | none=> exact ⟨none,fun k=> by simp [imp,ho]⟩
  | some q=>
   cases h:q.2.newBox id (.cells a .live q.1) with
   | none=> exact ⟨none,fun k=> by simp [imp,ho,h]⟩
   | some s'=> exact ⟨some (.addr (.box id) [],s'),fun k=> by simp [imp,ho,h]⟩
 | rptr a _=>
  intro id x s
  cases h:a.pure with
  | true=> exact ⟨some (.addr (.fbox a x) [],s),fun k=> by simp [imp,h]⟩
  | false=> exact ⟨none,fun k=> by simp [imp,h]⟩
 | optr a iha=>
  intro id x s
  cases x with
  | none=> exact ⟨some (.nilp,s),fun k=> by simp [imp]⟩
  | some y=>
   obtain ⟨o,ho⟩:=iha (2*id) y s
   cases o with
   | none=> exact ⟨none,fun k=> by simp [imp,ho]⟩
   | some q=>
    cases h:q.2.newBox id (.cells a .live q.1) with
    | none=> exact ⟨none,fun k=> by simp [imp,ho,h]⟩
    | some s'=> exact ⟨some (.addr (.box id) [],s'),fun k=> by simp [imp,ho,h]⟩
 | clo f n a iha=>
  intro id x s
  obtain ⟨o,ho⟩:=iha (2*id) x s
  exact ⟨o.map fun q=> (.cl f n q.1,q.2),fun k=> by simp [imp,ho,Option.bind_map,Function.comp_def]⟩
 | nilp=>
  intro id x s
  exact ⟨some (.nilp,s),fun k=> by simp [imp]⟩
 | int _=> intro id x s; exact ⟨some (.val _ x,s),fun k=> by simp [imp,Ty.pure]⟩
 | bool=> intro id x s; exact ⟨some (.val _ x,s),fun k=> by simp [imp,Ty.pure]⟩
 | str=> intro id x s; exact ⟨some (.val _ x,s),fun k=> by simp [imp,Ty.pure]⟩
 | unit=> intro id x s; exact ⟨some (.val _ x,s),fun k=> by simp [imp,Ty.pure]⟩
 | arr n a _=>
  intro id x s
  cases h:(Ty.arr n a).pure with
  | true=> exact ⟨some (.val _ x,s),fun k=> by simp only [imp,h,Ygu,Yiu]⟩
  | false=> exact ⟨none,fun k=> by simp only [imp,h,Yhu,Option.bind_none]⟩
theorem Y5e (a p:PV) (s:St):∃ o:Option St,∀ {R:Type} (k:St->Option R),Y44 a p s k=o.bind k:=by
 unfold Y44
 split
 ·exact ⟨some _,fun k=> rfl⟩
 ·exact ⟨none,fun k=> rfl⟩
theorem YHa:∀ (bs:List Ty) (l:List PV) (id:Nat) (x:(tup bs).den) (s:St),∃ o:Option St,∀ {R:Type} (k:St->Option R),YA1 bs l id x s k=o.bind k
 | [],[],_,_,s=> ⟨some s,fun k=> rfl⟩
 | [b],[a],id,x,s=> by
  obtain ⟨o,ho⟩:=Ym4 b id x s
  cases o with
  | none=> exact ⟨none,fun k=> by simp [YA1,ho]⟩
  | some q=>
   obtain ⟨o',ho'⟩:=Y5e a q.1 q.2
   exact ⟨o',fun k=> by simp [YA1,ho,ho']⟩
 | b::c::bs,a::l,id,x,s=> by
  obtain ⟨o,ho⟩:=Ym4 b id x.1 s
  cases o with
  | none=> exact ⟨none,fun k=> by simp [YA1,ho]⟩
  | some q=>
   obtain ⟨o',ho'⟩:=Y5e a q.1 q.2
   cases o' with
   | none=> exact ⟨none,fun k=> by simp [YA1,ho,ho']⟩
   | some s'=>
    obtain ⟨o2,ho2⟩:=YHa (c::bs) l (id+32) x.2 s'
    exact ⟨o2,fun k=> by simp only [YA1,ho,ho',Yiu,ho2]⟩
 | [],_::_,_,_,_=> ⟨none,fun k=> by simp [YA1]⟩
 | [_],[],_,_,_=> ⟨none,fun k=> by simp [YA1]⟩
 | [_],_::_::_,_,_,_=> ⟨none,fun k=> by simp [YA1]⟩
 | _::_::_,[],_,_,_=> ⟨none,fun k=> by simp [YA1]⟩
theorem Yrg:∀ (res bs:List Ty) (l:List PV) (id:Nat) (x:(tup (res++bs)).den) (s:St),∃ o:Option (PV×St),∀ {R:Type} (k:PV->St->Option R),Y01 res bs l id x s k=o.bind fun q=> k q.1 q.2
 | [],bs,l,id,x,s=> by
  obtain ⟨o,ho⟩:=YHa bs l id x s
  exact ⟨o.map fun s=> (.tnil,s),fun k=> by simp only [Y01,ho]; cases o <;> rfl⟩
 | [t],[],l,id,x,s=> by
  obtain ⟨o,ho⟩:=Ym4 t id x s
  exact ⟨o.map fun q=> (.tcons q.1 .tnil,q.2),fun k=> by simp only [Y01,ho]; cases o <;> rfl⟩
 | [t],b::bs,l,id,x,s=> by
  obtain ⟨o,ho⟩:=Ym4 t id x.1 s
  cases o with
  | none=> exact ⟨none,fun k=> by simp [Y01,ho]⟩
  | some q=>
   obtain ⟨o',ho'⟩:=YHa (b::bs) l (id+32) x.2 q.2
   exact ⟨o'.map fun s=> (.tcons q.1 .tnil,s),fun k=> by simp only [Y01,ho,Yiu,ho']; cases o' <;> rfl⟩
 | t::u::res,bs,l,id,x,s=> by
  obtain ⟨o,ho⟩:=Ym4 t id x.1 s
  cases o with
  | none=> exact ⟨none,fun k=> by simp [Y01,ho]⟩
  | some q=>
   obtain ⟨o',ho'⟩:=Yrg (u::res) bs l (id+32) x.2 q.2
   exact ⟨o'.map fun q'=> (.tcons q.1 q'.1,q'.2),fun k=> by simp only [Y01,ho,Yiu,ho']; cases o' <;> rfl⟩
theorem Ymg:∀ (ts:List Ty) (i:Nat) (x:(tup ts).den) (s:St),∃ o:Option St,∀ {R:Type} (k:St->Option R),Yl4 ts i x s k=o.bind k
 | [],_,_,s=> ⟨some s,fun k=> rfl⟩
 | [t],i,x,s=> by
  obtain ⟨o,ho⟩:=Ym4 t (YJ7 i) x s
  exact ⟨o.map fun q=> q.2.put i q.1,fun k=> by simp only [Yl4,ho]; cases o <;> rfl⟩
 | t::u::ts,i,x,s=> by
  obtain ⟨o,ho⟩:=Ym4 t (YJ7 i) x.1 s
  cases o with
  | none=> exact ⟨none,fun k=> by simp [Yl4,ho]⟩
  | some q=>
   obtain ⟨o',ho'⟩:=Ymg (u::ts) (i+1) x.2 (q.2.put i q.1)
   exact ⟨o',fun k=> by simp only [Yl4,ho,Yiu,ho']⟩
def Ev {α:Type} (F:Nat->Option α) (v:α):Prop:=∃ k,∀ n,k<=n->F n=some v
theorem Ev.const {α:Type} {o:Option α} {v:α} (h:o=some v):Ev (fun _=> o) v:=⟨0,fun _ _=> h⟩
theorem Ev.bind {α β:Type} {F:Nat->Option α} {G:Nat->α->Option β} {x:α} {v:β} (h:Ev F x) (g:Ev (fun n=> G n x) v):Ev (fun n=> (F n).bind (G n)) v:=by
 obtain ⟨k,hk⟩:=h
 obtain ⟨m,hm⟩:=g
 exact ⟨max k m,fun n hn=> by
  show (F n).bind (G n)=some v
  rw [hk n (by omega)]; exact hm n (by omega)⟩
section
variable (E:Env) {R:Type} {J:JumpT R} {J':Nat->JumpT R} {C:CallT E} {C':Nat->CallT E} (N:FuncId)
def YB6 {α β:Type} (F:α->Option β) (G:Nat->α->Option β):Prop:=∀ a v,F a=some v->Ev (fun n=> G n a) v
def Yp3 (κ:Ex->St->Option R) (κ':Nat->Ex->St->Option R):Prop:=∀ e s v,κ e s=some v->Ev (fun n=> κ' n e s) v
def YV2 (J:JumpT R) (J':Nat->JumpT R):Prop:=∀ r s v,J r s=some v->Ev (fun n=> J' n r s) v
def Yo3 (C:CallT E) (C':Nat->CallT E):Prop:=∀ f x v,C f x=some v->Ev (fun n=> C' n f x) v
theorem Y7s (g:Sig) (y:g.Out) (p:(i:TypeId)->(t:Ty)->t.den->Option R) (k:g.good.den->Option R) (p':Nat->(i:TypeId)->(t:Ty)->t.den->Option R) (k':Nat->g.good.den->Option R)
  {v:R} (hp:∀ i t x,p i t x=some v->Ev (fun n=> p' n i t x) v) (hk:∀ z,k z=some v->Ev (fun n=> k' n z) v) (h:YX1 g y p k=some v):Ev (fun n=> YX1 g y (p' n) (k' n)) v:=by
 obtain ⟨a,r,pan⟩:=g
 cases pan with
 | none=> exact hk _ h
 | some q=>
  obtain ⟨i,t⟩:=q
  cases y with
  | inl x=> exact hp _ _ _ h
  | inr z=> exact hk _ h
theorem YCp (hC:Yo3 E C C') {s:St} {dst:Option Nat} {f:FuncId} {ps:List PV} {π:Ex->St->Option R} {π':Nat->Ex->St->Option R} {κ:St->Option R} {κ':Nat->St->Option R} {v:R}
  (hπ:Yp3 π π') (hκ:YB6 κ κ') (h:Yb2 E C s dst f ps π κ=some v):Ev (fun n=> Yb2 E (C' n) s dst f ps (π' n) (κ' n)) v:=by
 unfold Yb2 at h ⊢
 split at h
 ·cases h
 ·rename_i x s' hx
  obtain ⟨y,hy,h⟩:=YLu.1 h
  refine Ev.bind (hC _ _ _ hy) ?_
  refine Y7s _ _ _ _ (fun n i t x=> π' n (.pan i t x) s') _ (fun i t x hx=> hπ _ _ _ hx) (fun z hz=> ?_) h
  obtain ⟨o,ho⟩:=Yrg (E.sig f).res (E.sig f).backs (Ya2 (E.sig f).args ps) (1024*(dst.getD 0+1)+2) z (bif (E.sig f).leaks then s' else s.thaw s')
  rw [ho] at hz
  obtain ⟨q,hq,hz⟩:=YLu.1 hz
  subst hq
  simp only [ho,Yiu]
  exact hκ _ _ hz
theorem Y6i {s:St} {o:Oper} {κ:St->Option R} {κ':Nat->St->Option R} {v:R} (hκ:YB6 κ κ') (h:YZ1 E s o κ=some v):Ev (fun n=> YZ1 E s o (κ' n)) v:=by
 unfold YZ1 at h ⊢
 split at h
 ·rename_i c s' hs
  cases c with
  | true=> exact hκ _ _ h
  | false=> cases h
 ·cases h
theorem Y4b (hC:Yo3 E C C') {s:St} {o:Oper} {π:Ex->St->Option R} {π':Nat->Ex->St->Option R} {κ:St->Option R} {κ':Nat->St->Option R} {v:R}
  (hπ:Yp3 π π') (hκ:YB6 κ κ') (h:opC E C s o π κ=some v):Ev (fun n=> opC E (C' n) s o (π' n) (κ' n)) v:=by
 unfold opC at h ⊢
 split at h
 ·split at h
  ·split at h
   ·split at h
    ·exact YCp E hC hπ hκ h
    ·cases h
   ·cases h
  ·exact Y6i E hκ h
 ·split at h
  ·split at h
   ·split at h <;> exact hκ _ _ h
   ·cases h
  ·cases h
 ·split at h
  ·split at h
   ·split at h
    ·exact hπ _ _ _ h
    ·cases h
   ·cases h
  ·cases h
 ·exact Y6i E hκ h
theorem Y6b (hC:Yo3 E C C') (ops:Array Oper):∀ (l:List Oper) (s:St) (κ:Ex->St->Option R) (κ':Nat->Ex->St->Option R) (v:R),Yp3 κ κ'->
  opsC E C ops l s κ=some v->Ev (fun n=> opsC E (C' n) ops l s (κ' n)) v:=by
 intro l
 induction l with
 | nil=> intro s κ κ' v hκ h; exact hκ _ _ _ h
 | cons o os ih=>
  intro s κ κ' v hκ h
  have hrest:YB6 (fun s=> opsC E C ops os s κ) (fun n s=> opsC E (C' n) ops os s (κ' n)):=fun s v h=> ih s κ κ' v hκ h
  unfold opsC at h ⊢
  split at h
  ·exact Y4b E hC hκ hrest h
  ·split at h
   ·cases h
   ·split at h
    ·split at h
     ·exact Y4b E hC hκ hrest h
     ·exact hrest _ _ h
     ·exact Y4b E hC hκ hrest h
     ·exact hrest _ _ h
    ·exact hrest _ _ h
    ·cases h
theorem YZ4 (hJ:YV2 J J') (hC:Yo3 E C C'):∀ (c:Code) (s:St) (κ:Ex->St->Option R) (κ':Nat->Ex->St->Option R) (r:List Item) (v:R),Yp3 κ κ'->
  execC E J C N c s κ r=some v->Ev (fun n=> execC E (J' n) (C' n) N c s (κ' n) r) v:=by
 intro c
 induction c with
 | skip=> intro s κ κ' r v hκ h; exact hκ _ _ _ h
 | region id ops d=>
  intro s κ κ' r v hκ h
  cases d with
  | false=> exact Y6b E hC ops _ _ _ _ _ hκ h
  | true=>
   simp only [execC] at h ⊢
   cases ho:E.ord N id with
   | none=> rw [ho] at h; cases h
   | some l=>
    rw [ho] at h
    simp only at h ⊢
    exact Y6b E hC ops _ _ _ _ _ hκ h
 | seq a b iha ihb=>
  intro s κ κ' r v hκ h
  refine iha s _ _ _ v (fun e s v h=> ?_) h
  cases e with
  | normal=> exact ihb s κ κ' r v hκ h
  | exit id=> exact hκ _ _ _ h
  | ret=> exact hκ _ _ _ h
  | pan i t x=> exact hκ _ _ _ h
 | cond c x y ihx ihy=>
  intro s κ κ' r v hκ h
  unfold execC at h ⊢
  split at h
  ·split at h
   ·exact hJ _ _ _ h
   ·cases h
  ·split at h
   ·unfold execC.branchC at h ⊢
    split at h
    ·have hk:∀ l:Live,Yp3 (fun e s=> match e with
       | .normal=> match norm l s with
        | some s=> J r s
        | none=> none
       | e=> κ e s) (fun n e s=> match e with
       | .normal=> match norm l s with
        | some s=> J' n r s
        | none=> none
       | e=> κ' n e s):=by
      intro l e s v h
      cases e with
      | normal=>
       simp only at h ⊢
       split at h
       ·exact hJ _ _ _ h
       ·cases h
      | exit id=> exact hκ _ _ _ h
      | ret=> exact hκ _ _ _ h
      | pan i t x=> exact hκ _ _ _ h
     split at h
     ·exact ihx _ _ _ _ _ (hk _) h
     ·exact ihy _ _ _ _ _ (hk _) h
    ·cases h
   ·unfold execC.branchC at h ⊢
    split at h
    ·split at h
     ·exact ihx _ _ _ _ _ hκ h
     ·exact ihy _ _ _ _ _ hκ h
    ·cases h
 | scope b ih=> intro s κ κ' r v hκ h; exact ih s _ _ _ v hκ h
 | block id b ih=>
  intro s κ κ' r v hκ h
  refine ih s _ _ _ v (fun e s v h=> ?_) h
  cases e with
  | normal=> exact hκ _ _ _ h
  | exit i=>
   simp only at h ⊢
   cases hb:Nat.beq i id with
   | true=> simp only [hb,Ygu] at h ⊢; exact hκ _ _ _ h
   | false=> simp only [hb,Yhu] at h ⊢; exact hκ _ _ _ h
  | ret=> exact hκ _ _ _ h
  | pan i t x=> exact hκ _ _ _ h
 | loop b ih=>
  intro s κ κ' r v hκ h
  unfold execC at h ⊢
  split at h
  ·split at h
   ·exact hJ _ _ _ h
   ·cases h
  ·cases h
 | exit id=> intro s κ κ' r v hκ h; exact hκ _ _ _ h
 | ret=> intro s κ κ' r v hκ h; exact hκ _ _ _ h
 | rangeFunc f p a b _ _=> intro s κ κ' r v hκ h; cases h
 | label l=> intro s κ κ' r v hκ h; cases h
 | goto l=> intro s κ κ' r v hκ h; cases h
 | refuse w=> intro s κ κ' r v hκ h; cases h
theorem YJp (hJ:YV2 J J') (hC:Yo3 E C C') (c:Operand) (x y:Code) (s:St) (κ:Ex->St->Option R) (κ':Nat->Ex->St->Option R) (r:List Item) (v:R) (hκ:Yp3 κ κ')
  (h:YS4 E J C N c x y s κ r=some v):Ev (fun n=> YS4 E (J' n) (C' n) N c x y s (κ' n) r) v:=by
 unfold YS4 at h ⊢
 split at h
 ·have hk:∀ l:Live,Yp3 (fun e s=> match e with
    | .normal=> match norm l s with
     | some s=> J r s
     | none=> none
    | e=> κ e s) (fun n e s=> match e with
    | .normal=> match norm l s with
     | some s=> J' n r s
     | none=> none
    | e=> κ' n e s):=by
   intro l e s v h
   cases e with
   | normal=>
    simp only at h ⊢
    split at h
    ·exact hJ _ _ _ h
    ·cases h
   | exit id=> exact hκ _ _ _ h
   | ret=> exact hκ _ _ _ h
   | pan i t x=> exact hκ _ _ _ h
  split at h
  ·split at h
   ·exact YZ4 E N hJ hC _ _ _ _ _ _ (hk _) h
   ·exact YZ4 E N hJ hC _ _ _ _ _ _ (hk _) h
  ·cases h
 ·split at h
  ·split at h
   ·exact YZ4 E N hJ hC _ _ _ _ _ _ hκ h
   ·exact YZ4 E N hJ hC _ _ _ _ _ _ hκ h
  ·cases h
theorem Yyb (hJ:YV2 J J') (hC:Yo3 E C C') (fin:Ex->St->Option R):∀ (r:List Item),Yp3 (Y91 E J C N fin r) (fun n=> Y91 E (J' n) (C' n) N fin r):=by
 intro r
 induction r with
 | nil=> intro e s v h; exact Ev.const (by simpa [Y91] using h)
 | cons i r ih=>
  intro e s v h
  cases i with
  | code c=>
   cases e with
   | normal=> exact YZ4 E N hJ hC _ _ _ _ _ _ ih h
   | exit id=> exact ih _ _ _ h
   | ret=> exact ih _ _ _ h
   | pan i t x=> exact ih _ _ _ h
  | inBlock id=>
   cases e with
   | normal=> exact ih _ _ _ h
   | exit i=>
    simp only [Y91] at h ⊢
    cases hb:Nat.beq i id with
    | true=> simp only [hb,Ygu] at h ⊢; exact ih _ _ _ h
    | false=> simp only [hb,Yhu] at h ⊢; exact ih _ _ _ h
   | ret=> exact ih _ _ _ h
   | pan i t x=> exact ih _ _ _ h
  | inScope=> cases e <;> exact ih _ _ _ h
  | inLoop b=>
   cases e with
   | normal=>
    simp only [Y91] at h ⊢
    split at h
    ·split at h
     ·exact hJ _ _ _ h
     ·cases h
    ·cases h
   | exit id=> exact ih _ _ _ h
   | ret=> exact ih _ _ _ h
   | pan i t x=> exact ih _ _ _ h
  | join l=>
   cases e with
   | normal=>
    simp only [Y91] at h ⊢
    split at h
    ·exact hJ _ _ _ h
    ·cases h
   | exit id=> exact ih _ _ _ h
   | ret=> exact ih _ _ _ h
   | pan i t x=> exact ih _ _ _ h
  | branch c x y=> simp [Y91] at h
theorem YUb (hJ:YV2 J J') (hC:Yo3 E C C') (fin:Ex->St->Option R) (r:List Item) (s:St) (v:R) (h:topF E J C N fin r s=some v):Ev (fun n=> topF E (J' n) (C' n) N fin r s) v:=by
 unfold topF at h ⊢
 split at h
 ·exact YZ4 E N hJ hC _ _ _ _ _ _ (Yyb E N hJ hC fin _) h
 ·exact YJp E N hJ hC _ _ _ _ _ _ _ _ (Yyb E N hJ hC fin _) h
 ·exact Yyb E N hJ hC fin _ _ _ _ h
end
theorem Yzt (E:Env) {R:Type} {J:JumpT R} {J':Nat->JumpT R} (hJ:YV2 J J') (c:Code) (s:St) (G:Option Guard) (v:R) (h:Yv5 E J c s G=some v):Ev (fun n=> Yv5 E (J' n) c s G) v:=by
 unfold Yv5 at h ⊢
 split at h
 ·exact hJ _ _ _ h
 ·split at h
  ·split at h
   ·rename_i G' c0 rest x0 id ops draw
    cases hc:(!draw&&YQ1 (YU5 G'.caps) rest) with
    | false=> rw [hc] at h; cases h
    | true=>
     rw [hc] at h
     simp only [Ygu] at h ⊢
     split at h
     ·rename_i pre k hd
      refine Y6b E (C:=fun _ _=> none) (C':=fun _ _ _=> none) (fun f x v h=> by cases h) _ _ _ _ _ _ (fun e s v h=> ?_) h
      cases e with
      | normal=>
       simp only at h ⊢
       split at h
       ·split at h
        ·rename_i g _ _ _ _ l _
         cases hm:(Nat.beq g G'.clo&&YQ4 s G'.caps l) with
         | false=> rw [hm] at h; cases h
         | true=> rw [hm] at h; simp only [Ygu] at h ⊢; exact hJ _ _ _ h
        ·cases h
       ·cases h
      | exit id=> cases h
      | ret=> cases h
      | pan i t x=> cases h
     ·cases h
   ·cases h
  ·cases h
theorem YI7 (E:Env) {J:(N:FuncId)->JumpT (E.sig N).Out} {J':Nat->(N:FuncId)->JumpT (E.sig N).Out} (hJ:∀ N,YV2 (J N) (fun n=> J' n N)):Yo3 E (Yr2 E J) (fun n=> Yr2 E (J' n)):=by
 intro f x v h
 show Ev (fun n=> Yr2 E (J' n) f x) v
 unfold Yr2 at h ⊢
 cases hp:E.prim f with
 | some g=> simp only [hp] at h ⊢; exact Ev.const h
 | none=>
  simp only [hp] at h ⊢
  cases hf:E.P.funcs[E.code f]? with
  | none=> simp only [hf] at h; cases h
  | some fn=>
   simp only [hf] at h ⊢
   cases hb:fn.body with
   | none=> simp only [hb] at h; cases h
   | some c=>
    simp only [hb] at h ⊢
    obtain ⟨o,ho⟩:=Ymg (E.sig f).args 0 x St.empty
    cases hc:Ye1 (Ya1 E f) (E.sig f).args ((E.sig f).args.length+(fn.ntmps - (E.sig f).args.length)) c with
    | false=> simp only [hc] at h; cases h
    | true=>
     simp only [hc] at h ⊢
     rw [ho] at h
     simp only [ho]
     cases o with
     | none=> cases h
     | some s=> exact Yzt E (hJ f) _ _ _ _ h
theorem YQh (E:Env):∀ (k:Nat) (N:FuncId) (r:List Item) (s:St) (v:(E.sig N).Out),run E k N r s=some v->run E (k+1) N r s=some v:=by
 intro k
 induction k with
 | zero=> intro N r s v h; cases h
 | succ k ih=>
  intro N r s v h
  have hJ:∀ N,YV2 (run E k N) (fun _=> run E (k+1) N):=fun N r s v h=> Ev.const (ih N r s v h)
  obtain ⟨n,hn⟩:=YUb E N (hJ N) (YI7 E hJ) _ r s v h
  exact hn n (Nat.le_refl _)
theorem YYs (E:Env) {k m:Nat} (h:k<=m) (N:FuncId) (r:List Item) (s:St) (v:(E.sig N).Out) (hr:run E k N r s=some v):run E m N r s=some v:=by
 induction m with
 | zero=>
  obtain rfl:k=0:=(by omega)
  exact hr
 | succ m ih=>
  by_cases hk:k=m+1
  ·subst hk; exact hr
  ·exact YQh E m N r s v (ih (by omega))
theorem Ynr {α:Type} {F:Nat->Option α} (hm:∀ k v,F k=some v->F (k+1)=some v) {v:α} {k:Nat} (h:F k=some v):Y76 F=some v:=by
 have up:∀ m n w,m<=n->F m=some w->F n=some w:=by
  intro m n w hmn
  induction n with
  | zero=>
   intro hw
   obtain rfl:m=0:=(by omega)
   exact hw
  | succ n ih=>
   intro hw
   by_cases e:m=n+1
   ·subst e; exact hw
   ·exact hm _ _ (ih (by omega) hw)
 have hex:∃ r,∃ k,F k=some r:=⟨v,k,h⟩
 unfold Y76
 rw [dif_pos hex]
 obtain ⟨k',hk'⟩:=Classical.choose_spec hex
 have h1:=up k (max k k') v (by omega) h
 have h2:=up k' (max k k') _ (by omega) hk'
 rw [h1] at h2
 exact h2.symm
theorem YNr {α:Type} {F:Nat->Option α} {v:α} (h:Y76 F=some v):∃ k,F k=some v:=by
 unfold Y76 at h
 split at h
 ·rename_i hex
  obtain ⟨k,hk⟩:=Classical.choose_spec hex
  cases h
  exact ⟨k,hk⟩
 ·cases h
theorem YV8 (E:Env) {k:Nat} {N:FuncId} {r:List Item} {s:St} {v:(E.sig N).Out} (h:run E k N r s=some v):Run E N r s=some v:=
 Ynr (F:=fun k=> run E k N r s) (fun k v h=> YQh E k N r s v h) h
theorem YYa (E:Env) {N:FuncId} {r:List Item} {s:St} {v:(E.sig N).Out} (h:Run E N r s=some v):∃ k,run E k N r s=some v:=YNr h
theorem Yhc (E:Env) (N:FuncId):YV2 (Run E N) (fun n=> run E n N):=fun r s v h=> by
 obtain ⟨k,hk⟩:=YYa E h
 exact ⟨k,fun n hn=> YYs E hn N r s v hk⟩
theorem Y8 (E:Env) (N:FuncId) (r:List Item) (s:St):Run E N r s=topF E (Run E N) (Call E) N (Yk4 E N (YR2 E N)) r s:=by
 have h1:∀ v,Run E N r s=some v->topF E (Run E N) (Call E) N (Yk4 E N (YR2 E N)) r s=some v:=by
  intro v h
  obtain ⟨k,hk⟩:=YYa E h
  cases k with
  | zero=> cases hk
  | succ k=>
   have hJ:∀ N,YV2 (run E k N) (fun _=> Run E N):=fun N r s v h=> Ev.const (YV8 E h)
   obtain ⟨n,hn⟩:=YUb E N (hJ N) (YI7 E hJ) _ r s v hk
   exact hn n (Nat.le_refl _)
 have h2:∀ v,topF E (Run E N) (Call E) N (Yk4 E N (YR2 E N)) r s=some v->Run E N r s=some v:=by
  intro v h
  obtain ⟨k,hk⟩:=YUb E N (Yhc E N) (YI7 E (Yhc E)) _ r s v h
  exact YV8 E (k:=k+1) (hk k (Nat.le_refl _))
 cases h:Run E N r s with
 | some v=> exact (h1 v h).symm
 | none=>
  cases h':topF E (Run E N) (Call E) N (Yk4 E N (YR2 E N)) r s with
  | none=> rfl
  | some v=> rw [h2 v h'] at h; cases h
theorem of_eq {P Q:Prop} (h:P=Q) (q:Q):P:=h.mpr q
end Go.Abs
namespace Go.Abs
def FrOK (fr:Nat×Nat) (n:Nat):Prop:=∀ o,o < n->¬(fr.1<=o/\o < fr.2)
def FrT (a:Ty) (fr:Nat×Nat) (n:Nat):Prop:=FrOK fr n/\(a≠.int .u8->¬(fr.1<=n/\n < fr.2))/\(a=.int .i32->n<=9223372036854775807)
theorem Ym3 (a:Ty) (n:Nat) (h:a=.int .i32->n<=9223372036854775807):FrT a (0,0) n:=⟨fun o _ h=> by simp at h,fun _ h=> by simp at h,h⟩
def RepL {α:Type} (R:α->List Value->List Nat->Prop):List α->List Value->List Nat->Prop
 | [],cs,X=> cs=[]/\X=[]
 | x::xs,cs,X=> ∃ c1 c2 X1 X2,cs=c1++c2/\X=X1++X2/\R x c1 X1/\RepL R xs c2 X2
def Yl (c:Array Value) (off n:Nat):List Value:=(c.toList.drop off).take n
def Rep (w:World) (fz:Nat->Prop):(t:Ty)->t.den->List Value->List Nat->Prop
 | .int k,(n:Int),cs,X=> cs=[.int k n]/\X=[]
 | .bool,(b:Bool),cs,X=> cs=[.bool b]/\X=[]
 | .str,(s:List UInt8),cs,X=> cs=[.string ⟨s.toArray⟩]/\X=[]
 | .unit,_,cs,X=> cs=[]/\X=[]
 | .pair a b,x,cs,X=> ∃ c1 c2 X1 X2,cs=c1++c2/\X=X1++X2/\Rep w fz a x.1 c1 X1/\Rep w fz b x.2 c2 X2
 | .st a,x,cs,X=> Rep w fz a x cs X
 | .arr n a,x,cs,X=> List.length x=n/\RepL (Rep w fz a) x cs X
 | .sl own a,x,cs,X=>
  (cs=[.slice none 0 0]/\x=[]/\X=[])\/
  (∃ b off cap c el fr X',cs=[.slice (some ⟨b,off,none⟩) (List.length x) cap]/\w.heap[b]? =some (.cells c el fr)/\List.length x<=cap/\off+cap*a.size<=c.size/\
   RepL (Rep w fz a) x (Yl c off (List.length x*a.size)) X'/\(match own with
    | true=> FrT a fr c.size/\X=b::X'
    | false=> fz b/\X'=[]/\X=[]))\/
  (own=false/\∃ a,cs=[.slice (some a) 0 0]/\x=[]/\X=[])
 | .ptr a,x,cs,X=> ∃ b c el fr X',cs=[.pointer (some ⟨b,0,none⟩)]/\w.heap[b]? =some (.cells c el fr)/\Rep w fz a x c.toList X'/\FrOK fr c.size/\X=b::X'
 | .rptr a,x,cs,X=> ∃ b off c el fr,cs=[.pointer (some ⟨b,off,none⟩)]/\w.heap[b]? =some (.cells c el fr)/\fz b/\Rep w fz a x (Yl c off a.size) []/\off+a.size<=c.size/\X=[]
 | .optr a,x,cs,X=> match x with
  | none=> cs=[.pointer none]/\X=[]
  | some y=> ∃ b c el fr X',cs=[.pointer (some ⟨b,0,none⟩)]/\w.heap[b]? =some (.cells c el fr)/\Rep w fz a y c.toList X'/\FrOK fr c.size/\X=b::X'
 | .clo f n a,x,cs,X=> ∃ vs,cs=[.func (.func f) #[] vs.toArray]/\vs.length=n/\Rep w fz a x vs X
 | .nilp,_,cs,X=> cs=[.pointer none]/\X=[]
def mkV (agg:Bool) (cs:List Value):Value:=match agg with
 | true=> .agg cs.toArray
 | false=> cs.headD undef
def YZ:Value->Prop
 | .agg _=> False
 | .tuple _=> False
 | _=> True
theorem RepL.length {α:Type} {R:α->List Value->List Nat->Prop} {n:Nat}:∀ {xs:List α} {cs X},(∀ x cs X,R x cs X->cs.length=n)->RepL R xs cs X->cs.length=xs.length*n
 | [],_,_,_,h=> by rw [h.1]; simp
 | x::xs,_,_,hR,h=> by
  obtain ⟨c1,c2,X1,X2,rfl,rfl,h1,h2⟩:=h
  rw [You,hR _ _ _ h1,RepL.length hR h2,Ynu,Nat.succ_mul,Nat.add_comm]
theorem Rep.length {w:World} {fz:Nat->Prop} (t:Ty):∀ {x:t.den} {cs X},Rep w fz t x cs X->cs.length=t.size:=by
 induction t with
 | pair a b iha ihb=> rintro x cs X ⟨c1,c2,X1,X2,rfl,rfl,h1,h2⟩; simp [iha h1,ihb h2,Ty.size]
 | st a ih=> intro x cs X h; exact ih (x:=x) h
 | arr n a ih=> rintro x cs X ⟨h1,h2⟩; rw [RepL.length (fun x cs X h=> ih h) h2,h1]; rfl
 | sl own a _=>
  rintro x cs X (⟨rfl,_⟩ | ⟨b,off,cap,c,el,fr,X',rfl,_⟩ | ⟨_,b,rfl,_⟩) <;> rfl
 | ptr a _=> rintro x cs X ⟨b,c,el,fr,X',rfl,_⟩; rfl
 | rptr a _=> rintro x cs X ⟨b,off,c,el,fr,rfl,_⟩; rfl
 | optr a _=>
  intro x cs X h
  cases x with
  | none=> rw [h.1]; rfl
  | some y=> obtain ⟨b,c,el,fr,X',rfl,_⟩:=h; rfl
 | clo f n a _=> rintro x cs X ⟨vs,rfl,_⟩; rfl
 | _=> intro x cs X h; rw [h.1]; rfl
theorem RepL.cells {α:Type} {R:α->List Value->List Nat->Prop}:∀ {xs:List α} {cs X},(∀ x cs X,R x cs X->∀ c∈cs,YZ c)->RepL R xs cs X->∀ c∈cs,YZ c
 | [],_,_,_,h=> by rw [h.1]; simp
 | x::xs,_,_,hR,h=> by
  obtain ⟨c1,c2,X1,X2,rfl,rfl,h1,h2⟩:=h
  intro c hc
  rcases YAu.1 hc with hc | hc
  ·exact hR _ _ _ h1 c hc
  ·exact RepL.cells hR h2 c hc
theorem Rep.cells {w:World} {fz:Nat->Prop} (t:Ty):∀ {x:t.den} {cs X},Rep w fz t x cs X->∀ c∈cs,YZ c:=by
 have one:∀ {v:Value} {cs:List Value},cs=[v]->YZ v->∀ c∈cs,YZ c:=by
  intro v cs h hv c hc; subst h; simp at hc; subst hc; exact hv
 induction t with
 | pair a b iha ihb=>
  rintro x cs X ⟨c1,c2,X1,X2,rfl,rfl,h1,h2⟩ c hc
  rcases YAu.1 hc with hc | hc
  ·exact iha h1 c hc
  ·exact ihb h2 c hc
 | st a ih=> intro x cs X h; exact ih (x:=x) h
 | arr n a ih=> rintro x cs X ⟨h1,h2⟩; exact RepL.cells (fun x cs X h=> ih h) h2
 | sl own a _=>
  rintro x cs X (⟨h,_⟩ | ⟨b,off,cap,c,el,fr,X',h,_⟩ | ⟨_,b,h,_⟩) <;> exact one h trivial
 | ptr a _=> rintro x cs X ⟨b,c,el,fr,X',h,_⟩; exact one h trivial
 | rptr a _=> rintro x cs X ⟨b,off,c,el,fr,h,_⟩; exact one h trivial
 | optr a _=>
  intro x cs X h
  cases x with
  | none=> exact one h.1 trivial
  | some y=> obtain ⟨b,c,el,fr,X',h,_⟩:=h; exact one h trivial
 | clo f n a _=> rintro x cs X ⟨vs,h,_⟩; exact one h trivial
 | unit=> intro x cs X h; rw [h.1]; simp
 | _=> intro x cs X h; exact one h.1 trivial
theorem RepL.mono {α:Type} {R R':α->List Value->List Nat->Prop}:∀ {xs:List α} {cs X},(∀ x cs X',R x cs X'->(∀ b∈X',b∈X)->R' x cs X')->RepL R xs cs X->RepL R' xs cs X
 | [],_,_,_,h=> h
 | x::xs,_,_,hR,h=> by
  obtain ⟨c1,c2,X1,X2,rfl,rfl,h1,h2⟩:=h
  exact ⟨c1,c2,X1,X2,rfl,rfl,hR _ _ _ h1 (fun b hb=> YAu.2 (.inl hb)),RepL.mono (fun x cs X' h hb=> hR x cs X' h (fun b hb'=> YAu.2 (.inr (hb b hb')))) h2⟩
theorem Rep.frame {w w':World} {fz fz':Nat->Prop} (hf:∀ b,fz b->w'.heap[b]? =w.heap[b]?) (hff:∀ b,fz b->fz' b) (t:Ty):
  ∀ {x:t.den} {cs X},(∀ b∈X,w'.heap[b]? =w.heap[b]?)->Rep w fz t x cs X->Rep w' fz' t x cs X:=by
 induction t with
 | pair a b iha ihb=>
  rintro x cs X hX ⟨c1,c2,X1,X2,rfl,rfl,h1,h2⟩
  exact ⟨c1,c2,X1,X2,rfl,rfl,iha (fun b hb=> hX b (YAu.2 (.inl hb))) h1,ihb (fun b hb=> hX b (YAu.2 (.inr hb))) h2⟩
 | st a ih=> intro x cs X hX h; exact ih (x:=x) hX h
 | arr n a ih=> rintro x cs X hX ⟨h1,h2⟩; exact ⟨h1,RepL.mono (fun x cs X' h hb=> ih (fun b hb'=> hX b (hb b hb')) h) h2⟩
 | sl own a ih=>
  rintro x cs X hX (h | ⟨b,off,cap,c,el,fr,X',h1,h2,h3,h4,h5,h6⟩ | h)
  ·exact .inl h
  ·refine .inr (.inl ⟨b,off,cap,c,el,fr,X',h1,?_,h3,h4,?_,?_⟩)
   ·cases own with
    | true=> rw [hX b (by rw [h6.2]; simp)]; exact h2
    | false=> rw [hf b h6.1]; exact h2
   ·refine RepL.mono (fun x cs X'' h hb=> ih (fun b' hb'=> ?_) h) h5
    cases own with
    | true=> exact hX b' (by rw [h6.2]; exact Y0v _ (hb b' hb'))
    | false=> have:=hb b' hb'; rw [h6.2.1] at this; cases this
   ·cases own with
    | true=> exact h6
    | false=> exact ⟨hff b h6.1,h6.2⟩
  ·exact .inr (.inr h)
 | ptr a ih=>
  rintro x cs X hX ⟨b,c,el,fr,X',h1,h2,h3,h4,rfl⟩
  exact ⟨b,c,el,fr,X',h1,by rw [hX b (by simp)]; exact h2,ih (fun b' hb'=> hX b' (Y0v _ hb')) h3,h4,rfl⟩
 | rptr a ih=>
  rintro x cs X hX ⟨b,off,c,el,fr,h1,h2,h3,h4,h5,rfl⟩
  exact ⟨b,off,c,el,fr,h1,by rw [hf b h3]; exact h2,hff b h3,ih (fun b' hb'=> by cases hb') h4,h5,rfl⟩
 | optr a ih=>
  intro x cs X hX h
  cases x with
  | none=> exact h
  | some y=>
   obtain ⟨b,c,el,fr,X',h1,h2,h3,h4,rfl⟩:=h
   exact ⟨b,c,el,fr,X',h1,by rw [hX b (by simp)]; exact h2,ih (fun b' hb'=> hX b' (Y0v _ hb')) h3,h4,rfl⟩
 | clo f n a ih=> rintro x cs X hX ⟨vs,h1,h2,h3⟩; exact ⟨vs,h1,h2,ih hX h3⟩
 | _=> intro x cs X hX h; exact h
theorem Rep.free {w:World} {fz fz':Nat->Prop} (t:Ty) (ht:t.free=true):∀ {x:t.den} {cs X},Rep w fz t x cs X->Rep w fz' t x cs X:=by
 induction t with
 | pair a b iha ihb=>
  simp only [Ty.free,Ylu] at ht
  rintro x cs X ⟨c1,c2,X1,X2,rfl,rfl,h1,h2⟩
  exact ⟨c1,c2,X1,X2,rfl,rfl,iha ht.1 h1,ihb ht.2 h2⟩
 | st a ih=> intro x cs X h; exact ih ht (x:=x) h
 | arr n a ih=> rintro x cs X ⟨h1,h2⟩; exact ⟨h1,RepL.mono (fun x cs X' h _=> ih ht h) h2⟩
 | sl own a ih=>
  simp only [Ty.free,Ylu] at ht
  obtain ⟨rfl,ht⟩:=ht
  rintro x cs X (h | ⟨b,off,cap,c,el,fr,X',h1,h2,h3,h4,h5,h6⟩ | h)
  ·exact .inl h
  ·exact .inr (.inl ⟨b,off,cap,c,el,fr,X',h1,h2,h3,h4,RepL.mono (fun x cs X' h _=> ih ht h) h5,h6⟩)
  ·cases h.1
 | ptr a ih=>
  rintro x cs X ⟨b,c,el,fr,X',h1,h2,h3,h4,h5⟩
  exact ⟨b,c,el,fr,X',h1,h2,ih ht h3,h4,h5⟩
 | rptr a ih=> cases ht
 | optr a ih=>
  intro x cs X h
  cases x with
  | none=> exact h
  | some y=>
   obtain ⟨b,c,el,fr,X',h1,h2,h3,h4,h5⟩:=h
   exact ⟨b,c,el,fr,X',h1,h2,ih ht h3,h4,h5⟩
 | clo f n a ih=> cases ht
 | _=> intro x cs X h; exact h
theorem Rep.pure {w:World} {fz:Nat->Prop} (t:Ty) (ht:t.pure=true):∀ {x:t.den} {cs X},Rep w fz t x cs X->X=[]:=by
 have hL:∀ {α:Type} {R:α->List Value->List Nat->Prop} {xs:List α} {cs X},(∀ x cs X,R x cs X->X=[])->RepL R xs cs X->X=[]:=by
  intro α R xs
  induction xs with
  | nil=> intro cs X _ h; exact h.2
  | cons x xs ih=>
   rintro cs X hR ⟨c1,c2,X1,X2,rfl,rfl,h1,h2⟩
   rw [hR _ _ _ h1,ih hR h2]; rfl
 induction t with
 | pair a b iha ihb=>
  simp only [Ty.pure,Ylu] at ht
  rintro x cs X ⟨c1,c2,X1,X2,rfl,rfl,h1,h2⟩
  rw [iha ht.1 h1,ihb ht.2 h2]; rfl
 | st a ih=> intro x cs X h; exact ih ht (x:=x) h
 | arr n a ih=> rintro x cs X ⟨h1,h2⟩; exact hL (fun x cs X h=> ih ht h) h2
 | sl own a ih=>
  simp only [Ty.pure,Ylu] at ht
  rintro x cs X (h | ⟨b,off,cap,c,el,fr,X',h1,h2,h3,h4,h5,h6⟩ | ⟨_,b,_,_,h⟩)
  ·exact h.2.2
  ·cases own with
   | true=> cases ht.1
   | false=> exact h6.2.2
  ·exact h
 | ptr a ih=> cases ht
 | rptr a ih=> rintro x cs X ⟨b,off,c,el,fr,h1,h2,h3,h4,h5,h6⟩; exact h6
 | optr a ih=> cases ht
 | clo f n a ih=> rintro x cs X ⟨vs,h1,h2,h3⟩; exact ih ht h3
 | _=> intro x cs X h; exact h.2
theorem Rep.freeze {w:World} {fz:Nat->Prop} {t:Ty} (ht:t.pure=true) {xs:List t.den} {cs X} (h:Rep w fz (.sl true t) xs cs X):Rep w (fun b=> fz b\/b∈X) (.sl false t) xs cs []:=by
 rcases h with h | ⟨b,off,cap,c,el,fr,X',h1,h2,h3,h4,h5,h6⟩ | ⟨h,_⟩
 ·exact .inl ⟨h.1,h.2.1,rfl⟩
 ·obtain ⟨h6,rfl⟩:=h6
  have hX:X'=[]:=Rep.pure (.arr xs.length t) ht (x:=xs) ⟨rfl,h5⟩
  subst hX
  exact .inr (.inl ⟨b,off,cap,c,el,fr,[],h1,h2,h3,h4,RepL.mono (fun x cs X' h _=> Rep.frame (fun _ _=> rfl) (fun b hb=> .inl hb) t (fun _ _=> rfl) h) h5,.inr (by simp),rfl,rfl⟩)
 ·cases h
end Go.Abs
namespace Go.Abs
def Ty.off:Ty->List Step->Nat
 | _,[]=> 0
 | .pair a _,.fst::l=> a.off l
 | .pair a b,.snd::l=> a.size+b.off l
 | .st a,.inn::l=> a.off l
 | .arr _ a,.idx i::l=> i*a.size+a.off l
 | _,_=> 0
inductive Ty.ok:Ty->List Step->Prop where
 | nil (t:Ty):Ty.ok t []
 | fst {a b:Ty} {l:List Step} (h:Ty.ok a l):Ty.ok (.pair a b) (.fst::l)
 | snd {a b:Ty} {l:List Step} (h:Ty.ok b l):Ty.ok (.pair a b) (.snd::l)
 | inn {a:Ty} {l:List Step} (h:Ty.ok a l):Ty.ok (.st a) (.inn::l)
 | idx {n i:Nat} {a:Ty} {l:List Step} (hi:i < n) (h:Ty.ok a l):Ty.ok (.arr n a) (.idx i::l)
theorem Ty.at_nil (t:Ty):t.at []=t:=by cases t <;> rfl
theorem Ty.off_nil (t:Ty):t.off []=0:=by cases t <;> rfl
theorem Ty.off_le {t:Ty} {l:List Step} (h:t.ok l):t.off l+(t.at l).size<=t.size:=by
 induction h with
 | nil t=> simp [Ty.off_nil,Ty.at_nil]
 | fst _ ih=> simp only [Ty.off,Ty.at,Ty.size]; omega
 | snd _ ih=> simp only [Ty.off,Ty.at,Ty.size]; omega
 | inn _ ih=> simp only [Ty.off,Ty.at,Ty.size]; omega
 | @idx n i a l hi _ ih=>
  have h1:i*a.size+a.size<=n*a.size:=by rw [<-Nat.succ_mul]; exact YTu _ hi
  simp only [Ty.off,Ty.at,Ty.size]; omega
theorem Ty.ok_append {t:Ty} {l m:List Step} (h:t.ok l):(t.at l).ok m->t.ok (l++m):=by
 induction h with
 | nil t=> intro g; rw [Ty.at_nil] at g; exact g
 | fst _ ih=> intro g; exact .fst (ih g)
 | snd _ ih=> intro g; exact .snd (ih g)
 | inn _ ih=> intro g; exact .inn (ih g)
 | idx hi _ ih=> intro g; exact .idx hi (ih g)
theorem Ty.off_append {t:Ty} {l:List Step} (h:t.ok l) (m:List Step):t.off (l++m)=t.off l+(t.at l).off m:=by
 induction h with
 | nil t=> simp [Ty.at_nil,Ty.off_nil]
 | fst _ ih=> simpa [Ty.at,Ty.off] using ih
 | snd _ ih=> simp only [List.cons_append,Ty.off,Ty.at,ih]; omega
 | inn _ ih=> simpa [Ty.at,Ty.off] using ih
 | idx _ _ ih=> simp only [List.cons_append,Ty.off,Ty.at,ih]; omega
inductive Key where
 | row (r:Nat) | box (b:Nat) | hand
 deriving DecidableEq
structure Maps where
 ρ:Nat->Value
 φ:Nat->List Nat
 γ:Nat->Nat
 ω:Nat->Option Key
def Yq3 (v:Value) (size lo hi:Nat) (cs:List Value):Prop:=
 (v=.slice none 0 0/\cs=[.slice none 0 0]/\lo=0/\hi=0)\/(∃ a,v=.slice (some a) 0 0/\cs=[.slice (some a) 0 0]/\lo=0/\hi=0)\/
 ∃ b off len cap off' cap',v=.slice (some ⟨b,off,none⟩) len cap/\cs=[.slice (some ⟨b,off',none⟩) (hi - lo) cap']/\(lo < hi->off'=off+lo*size)/\off'+cap'*size<=off+cap*size/\hi - lo<=cap'/\cap'<=cap
def RepP (w:World) (fz:Nat->Prop) (m:Maps) (s:St):PV->List Value->Prop
 | .undef,_=> False
 | .val t x,cs=> t.pure=true/\Rep w fz t x cs []
 | .pair a b,cs=> ∃ c1 c2,cs=c1++c2/\RepP w fz m s a c1/\RepP w fz m s b c2
 | .st a,cs=> RepP w fz m s a cs
 | .row r,cs=> cs=[m.ρ r]/\YZ (m.ρ r)/\s.rows r≠.none
 | .part r lo hi,cs=> ∃ t o xs,s.rows r=.mk t o xs/\lo<=hi/\hi<=xs.length/\Yq3 (m.ρ r) t.size lo hi cs
 | .bpart b path lo hi,cs=> ∃ T o c n u,s.boxes b=.cells T o c/\T.ok path/\T.at path=.arr n u/\lo<=hi/\hi<=n/\
   ∃ off' cap',cs=[.slice (some ⟨m.γ b,off',none⟩) (hi - lo) cap']/\(lo < hi->off'=T.off path+lo*u.size)/\off'+cap'*u.size<=T.off path+n*u.size/\hi - lo<=cap'
 | .nils,cs=> cs=[.slice none 0 0]
 | .nilp,cs=> cs=[.pointer none]
 | .addr (.box b) path,cs=> ((∃ T o c,s.boxes b=.cells T o c/\T.ok path/\cs=[.pointer (some ⟨m.γ b,T.off path,none⟩)])\/
   (∃ l n,s.boxes b=.iter l n/\path=[]/\cs=[.pointer (some ⟨m.γ b,0,none⟩)]))
 | .addr (.row r i) path,cs=> ∃ t o xs b off len cap,s.rows r=.mk t o xs/\m.ρ r=.slice (some ⟨b,off,none⟩) len cap/\i < xs.length/\t.ok path/\cs=[.pointer (some ⟨b,off+i*t.size+t.off path,none⟩)]
 | .addr (.fbox t x) path,cs=> t.pure=true/\t.ok path/\∃ b off c el fr,w.heap[b]? =some (.cells c el fr)/\fz b/\off+t.size<=c.size/\Rep w fz t x (Yl c off t.size) []/\cs=[.pointer (some ⟨b,off+t.off path,none⟩)]
 | .cl f n p,cs=> ∃ vs,cs=[.func (.func f) #[] vs.toArray]/\vs.length=n/\RepP w fz m s p vs
 | .ifc t p,cs=> ∃ vs,cs=[.iface t (mkV p.isAgg vs)]/\RepP w fz m s p vs
 | .tnil,_=> False
 | .tcons _ _,_=> False
def RepT (w:World) (fz:Nat->Prop) (m:Maps) (s:St):PV->List Value->Prop
 | .tnil,vs=> vs=[]
 | .tcons p q,vs=> ∃ cs us,vs=mkV p.isAgg cs::us/\RepP w fz m s p cs/\RepT w fz m s q us
 | _,_=> False
def RepS (w:World) (fz:Nat->Prop) (m:Maps) (s:St):PV->Value->Prop
 | .undef,_=> True
 | .tnil,v=> v=.tuple #[]
 | .tcons p q,v=> ∃ vs,v=.tuple vs.toArray/\RepT w fz m s (.tcons p q) vs
 | p,v=> ∃ cs,RepP w fz m s p cs/\v=mkV p.isAgg cs
structure Keep (w0:World) (X0:List Nat) (w:World):Prop where
 os:w.os=w0.os
 tape:w.tape=w0.tape
 output:w.output=w0.output
 size:w0.heap.size<=w.heap.size
 block:∀ b,b < w0.heap.size->b∉X0->w.heap[b]? =w0.heap[b]?
theorem Keep.refl (w:World) (X:List Nat):Keep w X w:=⟨rfl,rfl,rfl,Nat.le_refl _,fun _ _ _=> rfl⟩
theorem Keep.trans {w0 w1 w2:World} {X X':List Nat} (h:Keep w0 X w1) (g:Keep w1 X' w2) (hX:∀ b∈X',b∈X\/w0.heap.size<=b):Keep w0 X w2:=
 ⟨g.os.trans h.os,g.tape.trans h.tape,g.output.trans h.output,Nat.le_trans h.size g.size,fun b hb hn=>
  (g.block b (by have:=h.size; omega) (fun hb'=> (hX b hb').elim hn (fun h=> by omega))).trans (h.block b hb hn)⟩
structure Ent where
 X:List Nat
 fz:Nat->Prop
instance:Membership Nat Ent:=⟨fun e b=> b∈e.X⟩
structure Rel (w0:World) (X0:Ent) (fz:Nat->Prop) (m:Maps) (Y:List Nat) (s:St) (a:Act) (w:World):Prop where
 slots:∀ t,RepS w fz m s (s.slots t) (a.tmps.getD t undef)
 rows:∀ r t xs,s.rows r=.mk t .live xs->Rep w fz (.sl true t) xs [m.ρ r] (m.φ r)/\(m.φ r).Nodup/\∀ b∈m.φ r,m.ω b=some (.row r)
 rowsF:∀ r t xs,s.rows r=.mk t .frz xs->t.pure=true/\Rep w fz (.sl false t) xs [m.ρ r] []
 boxes:∀ b T o c,s.boxes b=.cells T o c->o≠.dead->∃ cs el fr,w.heap[m.γ b]? =some (.cells cs el fr)/\RepP w fz m s c cs.toList/\fits T c=true/\FrOK fr cs.size/\(o=.live->m.ω (m.γ b)=some (.box b))/\(o=.frz->fz (m.γ b))
 iters:∀ b l n,s.boxes b=.iter l n->w.heap[m.γ b]? =some (.stringIter ⟨l.toArray⟩ n)/\m.ω (m.γ b)=some (.box b)
 hand:Y.Nodup/\∀ b∈Y,m.ω b=some .hand
 own:∀ b k,m.ω b=some k->b < w.heap.size/\¬fz b/\(b∈X0\/w0.heap.size<=b)
 fzs:∀ b,fz b->b < w.heap.size/\(X0.fz b\/b∈X0\/w0.heap.size<=b)
 keep:Keep w0 X0.X w
 fz0s:∀ b,X0.fz b->fz b
structure StLe (s s':St):Prop where
 rows:∀ r t o xs,s.rows r=.mk t o xs->∃ o' xs',s'.rows r=.mk t o' xs'/\xs'.length=xs.length
 boxes:∀ b T o c,s.boxes b=.cells T o c->∃ o' c',s'.boxes b=.cells T o' c'
 iters:∀ b l n,s.boxes b=.iter l n->∃ n',s'.boxes b=.iter l n'
theorem StLe.refl (s:St):StLe s s:=⟨fun _ _ o xs h=> ⟨o,xs,h,rfl⟩,fun _ _ o c h=> ⟨o,c,h⟩,fun _ _ n h=> ⟨n,h⟩⟩
theorem StLe.trans {a b c:St} (h:StLe a b) (g:StLe b c):StLe a c:=
 ⟨fun r t o xs e=> by obtain ⟨o1,x1,e1,l1⟩:=h.rows _ _ _ _ e; obtain ⟨o2,x2,e2,l2⟩:=g.rows _ _ _ _ e1; exact ⟨o2,x2,e2,l2.trans l1⟩,
  fun r t o xs e=> by obtain ⟨o1,x1,e1⟩:=h.boxes _ _ _ _ e; exact g.boxes _ _ _ _ e1,
  fun r l n e=> by obtain ⟨n1,e1⟩:=h.iters _ _ _ e; exact g.iters _ _ _ e1⟩
theorem StLe.row_ne {s s':St} (h:StLe s s') {r:Nat} (hr:s.rows r≠.none):s'.rows r≠.none:=by
 cases e:s.rows r with
 | none=> exact absurd e hr
 | mk t o xs=> obtain ⟨o',xs',e',_⟩:=h.rows _ _ _ _ e; rw [e']; simp
structure MapsLe (s:St) (m m':Maps):Prop where
 ρ:∀ r,s.rows r≠.none->m'.ρ r=m.ρ r
 γ:∀ b,s.boxes b≠.none->m'.γ b=m.γ b
theorem MapsLe.refl (s:St) (m:Maps):MapsLe s m m:=⟨fun _ _=> rfl,fun _ _=> rfl⟩
theorem RepP.le {w w':World} {fz fz':Nat->Prop} {m m':Maps} {s s':St} (hs:StLe s s') (hm:MapsLe s m m') (hf:∀ b,fz b->w'.heap[b]? =w.heap[b]?) (hff:∀ b,fz b->fz' b):
  ∀ {p:PV} {cs:List Value},RepP w fz m s p cs->RepP w' fz' m' s' p cs:=by
 intro p
 induction p with
 | undef=> intro cs h; exact h
 | val t x=> intro cs h; exact ⟨h.1,Rep.frame hf hff t (fun b hb=> by cases hb) h.2⟩
 | pair a b iha ihb=> rintro cs ⟨c1,c2,rfl,h1,h2⟩; exact ⟨c1,c2,rfl,iha h1,ihb h2⟩
 | st a ih=> intro cs h; exact ih (cs:=cs) h
 | row r=> rintro cs ⟨rfl,hc,h⟩; exact ⟨by rw [hm.ρ r h],by rw [hm.ρ r h]; exact hc,hs.row_ne h⟩
 | part r lo hi=>
  rintro cs ⟨t,o,xs,h1,h2,h3,h4⟩
  obtain ⟨o',xs',h1',hl⟩:=hs.rows _ _ _ _ h1
  exact ⟨t,o',xs',h1',h2,by omega,by rw [hm.ρ r (by rw [h1]; simp)]; exact h4⟩
 | bpart b path lo hi=>
  rintro cs ⟨T,o,c,n,u,h1,h2,h3,h4,h5,off',cap',h6,h7,h8,h9⟩
  obtain ⟨o',c',h1'⟩:=hs.boxes _ _ _ _ h1
  exact ⟨T,o',c',n,u,h1',h2,h3,h4,h5,off',cap',by rw [hm.γ b (by rw [h1]; simp)]; exact h6,h7,h8,h9⟩
 | nils=> intro cs h; exact h
 | nilp=> intro cs h; exact h
 | addr b path=>
  intro cs h
  cases b with
  | box b=>
   rcases h with ⟨T,o,c,h1,h2,h3⟩ | ⟨l,n,h1,h2,h3⟩
   ·obtain ⟨o',c',h1'⟩:=hs.boxes _ _ _ _ h1
    exact .inl ⟨T,o',c',h1',h2,by rw [hm.γ b (by rw [h1]; simp)]; exact h3⟩
   ·obtain ⟨n',h1'⟩:=hs.iters _ _ _ h1
    exact .inr ⟨l,n',h1',h2,by rw [hm.γ b (by rw [h1]; simp)]; exact h3⟩
  | row r i=>
   obtain ⟨t,o,xs,b,off,len,cap,h1,h2,h3,h4,h5⟩:=h
   obtain ⟨o',xs',h1',hl⟩:=hs.rows _ _ _ _ h1
   exact ⟨t,o',xs',b,off,len,cap,h1',by rw [hm.ρ r (by rw [h1]; simp)]; exact h2,by omega,h4,h5⟩
  | fbox t x=>
   obtain ⟨h1,h2,b,off,c,el,fr,h3,h4,h5,h6,h7⟩:=h
   exact ⟨h1,h2,b,off,c,el,fr,by rw [hf b h4]; exact h3,hff b h4,h5,Rep.frame hf hff t (fun b hb=> by cases hb) h6,h7⟩
 | cl f n p ih=> rintro cs ⟨vs,h1,h2,h3⟩; exact ⟨vs,h1,h2,ih h3⟩
 | ifc t p ih=> rintro cs ⟨vs,h1,h2⟩; exact ⟨vs,h1,ih h2⟩
 | tnil=> intro cs h; exact h
 | tcons a b=> intro cs h; exact h
theorem RepT.le {w w':World} {fz fz':Nat->Prop} {m m':Maps} {s s':St} (hs:StLe s s') (hm:MapsLe s m m') (hf:∀ b,fz b->w'.heap[b]? =w.heap[b]?) (hff:∀ b,fz b->fz' b):
  ∀ {p:PV} {vs:List Value},RepT w fz m s p vs->RepT w' fz' m' s' p vs:=by
 intro p
 induction p with
 | tnil=> intro vs h; exact h
 | tcons a b _ ihb=> rintro vs ⟨cs,us,h1,h2,h3⟩; exact ⟨cs,us,h1,RepP.le hs hm hf hff h2,ihb h3⟩
 | _=> intro vs h; exact h.elim
theorem RepS.le {w w':World} {fz fz':Nat->Prop} {m m':Maps} {s s':St} (hs:StLe s s') (hm:MapsLe s m m') (hf:∀ b,fz b->w'.heap[b]? =w.heap[b]?) (hff:∀ b,fz b->fz' b):
  ∀ {p:PV} {v:Value},RepS w fz m s p v->RepS w' fz' m' s' p v:=by
 intro p v h
 cases p with
 | undef=> trivial
 | tnil=> exact h
 | tcons a b=> obtain ⟨vs,h1,h2⟩:=h; exact ⟨vs,h1,RepT.le hs hm hf hff h2⟩
 | _=> obtain ⟨cs,h1,h2⟩:=h; exact ⟨cs,RepP.le hs hm hf hff h1,h2⟩
theorem RepP.size {w:World} {fz:Nat->Prop} {m:Maps} {s:St}:∀ {p:PV} {cs:List Value},RepP w fz m s p cs->cs.length=p.size:=by
 intro p
 induction p with
 | undef=> intro cs h; cases h
 | val t x=> intro cs h; exact Rep.length t h.2
 | pair a b iha ihb=> rintro cs ⟨c1,c2,rfl,h1,h2⟩; simp [iha h1,ihb h2,PV.size]
 | st a ih=> intro cs h; exact ih (cs:=cs) h
 | row r=> rintro cs ⟨rfl,_⟩; rfl
 | part r lo hi=> rintro cs ⟨t,o,xs,h1,h2,h3,(⟨_,rfl,_⟩ | ⟨_,_,rfl,_⟩ | ⟨b,off,len,cap,off',cap',_,rfl,_⟩)⟩ <;> rfl
 | bpart b path lo hi=> rintro cs ⟨T,o,c,n,u,h1,h2,h3,h4,h5,off',cap',rfl,_⟩; rfl
 | nils=> rintro cs rfl; rfl
 | nilp=> rintro cs rfl; rfl
 | addr b path=>
  intro cs h
  cases b with
  | box b=> rcases h with ⟨T,o,c,h1,h2,rfl⟩ | ⟨l,n,h1,h2,rfl⟩ <;> rfl
  | row r i=> obtain ⟨t,o,xs,b,off,len,cap,h1,h2,h3,h4,rfl⟩:=h; rfl
  | fbox t x=> obtain ⟨h1,h2,b,off,c,el,fr,h3,h4,h5,h6,rfl⟩:=h; rfl
 | cl f n p ih=> rintro cs ⟨vs,rfl,h2⟩; rfl
 | ifc t p ih=> rintro cs ⟨vs,rfl,h2⟩; rfl
 | tnil=> intro cs h; cases h
 | tcons a b=> intro cs h; cases h
theorem RepP.cells {w:World} {fz:Nat->Prop} {m:Maps} {s:St}:∀ {p:PV} {cs:List Value},RepP w fz m s p cs->∀ c∈cs,YZ c:=by
 have one:∀ {v:Value} {cs:List Value},cs=[v]->YZ v->∀ c∈cs,YZ c:=by
  intro v cs h hv c hc; subst h; simp at hc; subst hc; exact hv
 intro p
 induction p with
 | undef=> intro cs h; cases h
 | val t x=> intro cs h; exact Rep.cells t h.2
 | pair a b iha ihb=>
  rintro cs ⟨c1,c2,rfl,h1,h2⟩ c hc
  rcases YAu.1 hc with hc | hc
  ·exact iha h1 c hc
  ·exact ihb h2 c hc
 | st a ih=> intro cs h; exact ih (cs:=cs) h
 | row r=> rintro cs ⟨h,hc,_⟩; exact one h hc
 | part r lo hi=> rintro cs ⟨t,o,xs,h1,h2,h3,(⟨_,h,_⟩ | ⟨_,_,h,_⟩ | ⟨b,off,len,cap,off',cap',_,h,_⟩)⟩ <;> exact one h trivial
 | bpart b path lo hi=> rintro cs ⟨T,o,c,n,u,h1,h2,h3,h4,h5,off',cap',h,_⟩; exact one h trivial
 | nils=> intro cs h; exact one h trivial
 | nilp=> intro cs h; exact one h trivial
 | addr b path=>
  intro cs h
  cases b with
  | box b=> rcases h with ⟨T,o,c,h1,h2,h⟩ | ⟨l,n,h1,h2,h⟩ <;> exact one h trivial
  | row r i=> obtain ⟨t,o,xs,b,off,len,cap,h1,h2,h3,h4,h⟩:=h; exact one h trivial
  | fbox t x=> obtain ⟨h1,h2,b,off,c,el,fr,h3,h4,h5,h6,h⟩:=h; exact one h trivial
 | cl f n p ih=> rintro cs ⟨vs,h,h2⟩; exact one h trivial
 | ifc t p ih=> rintro cs ⟨vs,h,h2⟩; exact one h trivial
 | tnil=> intro cs h; cases h
 | tcons a b=> intro cs h; cases h
theorem YU (T t:Ty) (x:t.den):fits T (.val t x)=T.same t:=by cases T <;> rfl
section parts
variable {w:World} {fz:Nat->Prop} {m:Maps} {s:St}
theorem RepP.fst {p:PV} {A B:Ty} {cs:List Value} (hp:RepP w fz m s p cs) (hf:fits (.pair A B) p=true):
  ∃ c1 c2,cs=c1++c2/\RepP w fz m s p.fst c1/\RepP w fz m s p.snd c2/\fits A p.fst=true/\fits B p.snd=true:=by
 cases p with
 | val t x=>
  cases t with
  | pair a b=>
   obtain ⟨hp1,c1,c2,X1,X2,h1,h2,h3,h4⟩:=hp
   simp only [Ty.pure,Ylu] at hp1
   have e1:=Rep.pure a hp1.1 h3
   have e2:=Rep.pure b hp1.2 h4
   subst e1; subst e2
   simp only [YU,Ty.same,Ylu] at hf
   exact ⟨c1,c2,h1,⟨hp1.1,h3⟩,⟨hp1.2,h4⟩,by rw [PV.fst,YU]; exact hf.1,by rw [PV.snd,YU]; exact hf.2⟩
  | _=> simp [fits,Ty.same] at hf
 | pair a b=>
  obtain ⟨c1,c2,h1,h2,h3⟩:=hp
  simp only [fits,Ylu] at hf
  exact ⟨c1,c2,h1,h2,h3,hf.1,hf.2⟩
 | _=> simp [fits] at hf
theorem RepP.inn {p:PV} {A:Ty} {cs:List Value} (hp:RepP w fz m s p cs) (hf:fits (.st A) p=true):RepP w fz m s p.inn cs/\fits A p.inn=true:=by
 cases p with
 | val t x=>
  cases t with
  | st a=> exact ⟨hp,by rw [YU] at hf; rw [PV.inn,YU]; exact hf⟩
  | _=> simp [fits,Ty.same] at hf
 | st a=> exact ⟨hp,by simp only [fits] at hf; exact hf⟩
 | _=> simp [fits] at hf
theorem RepP.mkPair {p q:PV} {c1 c2:List Value} (hp:RepP w fz m s p c1) (hq:RepP w fz m s q c2):RepP w fz m s (.mkPair p q) (c1++c2):=by
 unfold PV.mkPair
 split
 ·exact ⟨by simp [Ty.pure,hp.1,hq.1],c1,c2,[],[],rfl,rfl,hp.2,hq.2⟩
 ·exact ⟨c1,c2,rfl,hp,hq⟩
theorem RepP.mkSt {p:PV} {cs:List Value} (hp:RepP w fz m s p cs):RepP w fz m s (.mkSt p) cs:=by
 unfold PV.mkSt
 split
 ·exact ⟨by simpa [Ty.pure] using hp.1,hp.2⟩
 ·exact hp
theorem Yxa {A B:Ty} {p q:PV} (h1:fits A p=true) (h2:fits B q=true):fits (.pair A B) (.mkPair p q)=true:=by
 unfold PV.mkPair
 split
 ·rw [YU] at*
  simp [Ty.same,h1,h2]
 ·simp [fits,h1,h2]
theorem Y8g {A:Ty} {p:PV} (h1:fits A p=true):fits (.st A) (.mkSt p)=true:=by
 unfold PV.mkSt
 split
 ·rw [YU] at*
  simp [Ty.same,h1]
 ·simp [fits,h1]
end parts
end Go.Abs
namespace Go.Abs
theorem Ty.cast_some {a b:Ty} {x:a.den} {y:b.den} (h:Ty.cast a b x=some y):∃ e:a=b,y=e▸ x:=by
 unfold Ty.cast at h
 split at h
 ·rename_i e _
  cases h
  exact ⟨e,rfl⟩
 ·cases h
theorem Yv3 {t:Ty} {p:PV} {x:t.den} (h:Yo t p=some x):p=.val t x:=by
 unfold Yo at h
 split at h
 ·obtain ⟨e,rfl⟩:=Ty.cast_some h
  subst e
  rfl
 ·cases h
theorem Ty.same_refl (t:Ty):t.same t=true:=by
 induction t with
 | int k=> cases k <;> rfl
 | pair a b iha ihb=> simp [Ty.same,iha,ihb]
 | st a ih=> simp [Ty.same,ih]
 | arr n a ih=> simp [Ty.same,ih]
 | _=> rfl
theorem YX7 {t:Ty} (h:Ty.same.isPtr t=true):t.size=1/\t.isAgg=false:=by
 cases t <;> simp_all [Ty.same.isPtr,Ty.size,Ty.isAgg]
theorem Ty.same_size:∀ {T t:Ty},T.same t=true->T.size=t.size/\T.isAgg=t.isAgg:=by
 intro T
 induction T with
 | pair a b iha ihb=>
  intro t h
  cases t <;> simp only [Ty.same,Ylu,YSu] at h
  simp [Ty.size,Ty.isAgg,(iha h.1).1,(ihb h.2).1]
 | st a ih=>
  intro t h
  cases t <;> simp only [Ty.same,YSu] at h
  simp [Ty.size,Ty.isAgg,(ih h).1]
 | arr n a ih=>
  intro t h
  cases t <;> simp only [Ty.same,Ylu,YSu] at h
  obtain ⟨h1,h2⟩:=h
  have:=YOu h1
  subst this
  simp [Ty.size,Ty.isAgg,(ih h2).1]
 | ptr a _=> intro t h; have:=YX7 (t:=t) (by simpa [Ty.same] using h); exact ⟨this.1.symm,this.2.symm⟩
 | rptr a _=> intro t h; have:=YX7 (t:=t) (by simpa [Ty.same] using h); exact ⟨this.1.symm,this.2.symm⟩
 | optr a _=> intro t h; have:=YX7 (t:=t) (by simpa [Ty.same] using h); exact ⟨this.1.symm,this.2.symm⟩
 | nilp=> intro t h; have:=YX7 (t:=t) (by simpa [Ty.same] using h); exact ⟨this.1.symm,this.2.symm⟩
 | _=> intro t h; cases t <;> simp_all [Ty.same,Ty.size,Ty.isAgg]
theorem YW {T:Ty} {p:PV} (h:fits T p=true):p.isAgg=T.isAgg/\p.size=T.size:=by
 induction p generalizing T with
 | val t x=> rw [YU] at h; exact ⟨(Ty.same_size h).2.symm,(Ty.same_size h).1.symm⟩
 | pair a b iha ihb=>
  cases T <;> simp only [fits,Ylu,YSu] at h
  simp [PV.isAgg,Ty.isAgg,PV.size,Ty.size,(iha h.1).2,(ihb h.2).2]
 | st a ih=>
  cases T <;> simp only [fits,YSu] at h
  simp [PV.isAgg,Ty.isAgg,PV.size,Ty.size,(ih h).2]
 | _=> cases T <;> simp_all [fits,PV.isAgg,Ty.isAgg,PV.size,Ty.size]
theorem RepL.get {α:Type} {R:α->List Value->List Nat->Prop} {n:Nat} (hR:∀ x cs X,R x cs X->cs.length=n) (d:α):
  ∀ {xs:List α} {cs X} (i:Nat),RepL R xs cs X->i < xs.length->∃ X',R (xs.getD i d) ((cs.drop (i*n)).take n) X'/\∀ b∈X',b∈X
 | [],_,_,_,_,h=> by cases h
 | x::xs,cs,X,0,h,_=> by
  obtain ⟨c1,c2,X1,X2,rfl,rfl,h1,h2⟩:=h
  refine ⟨X1,?_,fun b hb=> YAu.2 (.inl hb)⟩
  have:=hR _ _ _ h1
  simpa [<-this] using h1
 | x::xs,cs,X,i+1,h,hi=> by
  obtain ⟨c1,c2,X1,X2,rfl,rfl,h1,h2⟩:=h
  obtain ⟨X',h3,h4⟩:=RepL.get hR d i h2 (by simpa using hi)
  refine ⟨X',?_,fun b hb=> YAu.2 (.inr (h4 b hb))⟩
  have:=hR _ _ _ h1
  rw [List.getD_cons_succ,show (i+1)*n=c1.length+i*n by rw [Nat.succ_mul,this]; omega,List.drop_append]
  simp only [Nat.add_sub_cancel_left]
  rw [YPu (by omega),YIu]
  exact h3
theorem RepL.pure {α:Type} {R:α->List Value->List Nat->Prop} (hR:∀ x cs X,R x cs X->X=[]):∀ {xs:List α} {cs X},RepL R xs cs X->X=[]
 | [],_,_,h=> h.2
 | x::xs,_,_,h=> by
  obtain ⟨c1,c2,X1,X2,rfl,rfl,h1,h2⟩:=h
  rw [hR _ _ _ h1,RepL.pure hR h2]; rfl
theorem RepL.set {α:Type} {R:α->List Value->List Nat->Prop} {n:Nat} (hR:∀ x cs X,R x cs X->cs.length=n/\X=[]):
  ∀ {xs:List α} {cs X} (i:Nat) (y:α) (ds:List Value),RepL R xs cs X->i < xs.length->R y ds []->RepL R (xs.set i y) (cs.take (i*n)++ds++cs.drop (i*n+n)) []
 | [],_,_,_,_,_,_,h,_=> by cases h
 | x::xs,cs,X,0,y,ds,h,_,hy=> by
  obtain ⟨c1,c2,X1,X2,rfl,rfl,h1,h2⟩:=h
  have e1:=hR _ _ _ h1
  have h2':RepL R xs c2 []:=by
   have:=RepL.pure (fun x cs X h=> (hR x cs X h).2) h2
   subst this; exact h2
  refine ⟨ds,c2,[],[],?_,rfl,hy,h2'⟩
  simp [<-e1.1]
 | x::xs,cs,X,i+1,y,ds,h,hi,hy=> by
  obtain ⟨c1,c2,X1,X2,rfl,rfl,h1,h2⟩:=h
  have e1:=hR _ _ _ h1
  have:=RepL.set hR i y ds h2 (by simpa using hi) hy
  refine ⟨c1,c2.take (i*n)++ds++c2.drop (i*n+n),[],[],?_,rfl,by rw [e1.2] at h1; exact h1,this⟩
  rw [show (i+1)*n=c1.length+i*n by rw [Nat.succ_mul,e1.1]; omega,List.take_append,show c1.length+i*n+n=c1.length+(i*n+n) by omega,List.drop_append]
  rw [YWu (by omega:c1.length<=c1.length+i*n),YPu (by omega:c1.length<=c1.length+(i*n+n))]
  simp [Nat.add_sub_cancel_left]
section
variable {w:World} {fz:Nat->Prop} {m:Maps} {s:St}
theorem YR5 (cs:List Value) (a b c d:Nat) (h:c+d<=b):(((cs.drop a).take b).drop c).take d=(cs.drop (a+c)).take d:=by
 rw [List.drop_take,List.take_take,List.drop_drop]
 congr 1
 omega
theorem RepP.get {T:Ty} {path:List Step} (hT:T.ok path):∀ {p:PV} {cs:List Value},RepP w fz m s p cs->fits T p=true->
  RepP w fz m s (p.get path) ((cs.drop (T.off path)).take (T.at path).size)/\fits (T.at path) (p.get path)=true:=by
 induction hT with
 | nil t=>
  intro p cs hp hf
  have e:p.get []=p:=by cases p <;> rfl
  rw [e,Ty.off_nil,Ty.at_nil]
  refine ⟨?_,hf⟩
  rw [YZu,YWu (by rw [RepP.size hp,(YW hf).2]; omega)]
  exact hp
 | @fst a b l _ ih=>
  intro p cs hp hf
  obtain ⟨c1,c2,rfl,h1,h2,h3,h4⟩:=hp.fst hf
  have e:p.get (.fst::l)=p.fst.get l:=by cases p <;> rfl
  obtain ⟨g1,g2⟩:=ih h1 h3
  have hl:=RepP.size h1
  rw [(YW h3).2] at hl
  rw [e]
  refine ⟨?_,g2⟩
  have:=Ty.off_le ‹Ty.ok a l›
  rw [Ty.off,Ty.at,List.drop_append,List.take_append]
  have e2:(a.at l).size - (List.drop (a.off l) c1).length=0:=by simp; omega
  rw [e2,List.take_zero,YHu]
  exact g1
 | @snd a b l _ ih=>
  intro p cs hp hf
  obtain ⟨c1,c2,rfl,h1,h2,h3,h4⟩:=hp.fst hf
  have e:p.get (.snd::l)=p.snd.get l:=by cases p <;> rfl
  obtain ⟨g1,g2⟩:=ih h2 h4
  have hl:=RepP.size h1
  rw [(YW h3).2] at hl
  rw [e]
  refine ⟨?_,g2⟩
  rw [Ty.off,Ty.at,List.drop_append,YPu (by omega),YIu,hl,Nat.add_sub_cancel_left]
  exact g1
 | @inn a l _ ih=>
  intro p cs hp hf
  have e:p.get (.inn::l)=p.inn.get l:=by cases p <;> rfl
  rw [e]
  exact ih (hp.inn hf).1 (hp.inn hf).2
 | @idx n i a l hi _ ih=>
  intro p cs hp hf
  cases p with
  | val t x=>
   cases t with
   | arr k c=>
    simp only [YU,Ty.same,Ylu] at hf
    have hk:=YOu hf.1
    subst hk
    have hs:=Ty.same_size hf.2
    obtain ⟨h1,h2,h3⟩:=hp
    obtain ⟨X',h4,h5⟩:=RepL.get (fun x cs X h=> Rep.length c h) c.zero i h3 (by omega)
    have hX:X'=[]:=by cases X' with | nil=> rfl | cons b _=> exact absurd (h5 b (by simp)) (by simp)
    subst hX
    obtain ⟨g1,g2⟩:=ih (p:=.val c (List.getD x i c.zero)) ⟨h1,h4⟩ (by rw [YU]; exact hf.2)
    refine ⟨?_,g2⟩
    have:=Ty.off_le ‹Ty.ok a l›
    rw [YR5 _ _ _ _ _ (by omega)] at g1
    rw [Ty.off,Ty.at,hs.1]
    exact g1
   | _=> simp [YU,Ty.same] at hf
  | _=> simp [fits] at hf
theorem Yts (c1 c2 vs:List Value) (off n:Nat) (h:off+n<=c1.length):(c1++c2).take off++vs++(c1++c2).drop (off+n)=(c1.take off++vs++c1.drop (off+n))++c2:=by
 rw [List.take_append_of_le_length (by omega),List.drop_append_of_le_length (by omega)]
 simp
theorem Yus (c1 c2 vs:List Value) (off n:Nat):(c1++c2).take (c1.length+off)++vs++(c1++c2).drop (c1.length+off+n)=c1++(c2.take off++vs++c2.drop (off+n)):=by
 rw [List.take_append,List.drop_append,YWu (by omega),YPu (by omega)]
 simp [Nat.add_assoc]
theorem RepP.set {T:Ty} {path:List Step} (hT:T.ok path):∀ {p p' v:PV} {cs vs:List Value},RepP w fz m s p cs->fits T p=true->RepP w fz m s v vs->fits (T.at path) v=true->p.set path v=some p'->
  RepP w fz m s p' (cs.take (T.off path)++vs++cs.drop (T.off path+(T.at path).size))/\fits T p'=true:=by
 induction hT with
 | nil t=>
  intro p p' v cs vs hp hf hv hg h
  have e:p.set [] v=some v:=by cases p <;> rfl
  rw [e] at h
  cases h
  rw [Ty.at_nil] at hg ⊢
  rw [Ty.off_nil,List.take_zero,YIu,YPu (by rw [RepP.size hp,(YW hf).2]; omega),YHu]
  exact ⟨hv,hg⟩
 | @fst a b l _ ih=>
  intro p p' v cs vs hp hf hv hg h
  obtain ⟨c1,c2,rfl,h1,h2,h3,h4⟩:=hp.fst hf
  have e:p.set (.fst::l) v=match p.fst.set l v with
   | some q=> some (.mkPair q p.snd)
   | none=> none:=by cases p <;> rfl
  rw [e] at h
  split at h
  ·rename_i q hq
   cases h
   obtain ⟨g1,g2⟩:=ih h1 h3 hv hg hq
   have hl:=RepP.size h1
   rw [(YW h3).2] at hl
   have:=Ty.off_le ‹Ty.ok a l›
   rw [Ty.off,Ty.at,Yts _ _ _ _ _ (by omega)]
   exact ⟨g1.mkPair h2,Yxa g2 h4⟩
  ·cases h
 | @snd a b l _ ih=>
  intro p p' v cs vs hp hf hv hg h
  obtain ⟨c1,c2,rfl,h1,h2,h3,h4⟩:=hp.fst hf
  have e:p.set (.snd::l) v=match p.snd.set l v with
   | some q=> some (.mkPair p.fst q)
   | none=> none:=by cases p <;> rfl
  rw [e] at h
  split at h
  ·rename_i q hq
   cases h
   obtain ⟨g1,g2⟩:=ih h2 h4 hv hg hq
   have hl:=RepP.size h1
   rw [(YW h3).2] at hl
   rw [Ty.off,Ty.at,<-hl,Yus]
   exact ⟨h1.mkPair g1,Yxa h3 g2⟩
  ·cases h
 | @inn a l _ ih=>
  intro p p' v cs vs hp hf hv hg h
  have e:p.set (.inn::l) v=match p.inn.set l v with
   | some q=> some (.mkSt q)
   | none=> none:=by cases p <;> rfl
  rw [e] at h
  split at h
  ·rename_i q hq
   cases h
   obtain ⟨g1,g2⟩:=ih (hp.inn hf).1 (hp.inn hf).2 hv hg hq
   exact ⟨g1.mkSt,Y8g g2⟩
  ·cases h
 | @idx n i a l hi _ ih=>
  intro p p' v cs vs hp hf hv hg h
  cases p with
  | val t x=>
   cases t with
   | arr k c=>
    simp only [YU,Ty.same,Ylu] at hf
    have hk:=YOu hf.1
    subst hk
    have hs:=Ty.same_size hf.2
    obtain ⟨h1,h2,h3⟩:=hp
    obtain ⟨X',h4,h5⟩:=RepL.get (fun x cs X h=> Rep.length c h) c.zero i h3 (by omega)
    have hX:X'=[]:=by cases X' with | nil=> rfl | cons b _=> exact absurd (h5 b (by simp)) (by simp)
    subst hX
    have e:PV.set (.val (.arr n c) x) (.idx i::l) v=match PV.set (.val c (List.getD x i c.zero)) l v with
     | some q=> match Yo c q with
      | some y=> some (.val (.arr n c) (List.set x i y))
      | none=> none
     | none=> none:=rfl
    rw [e] at h
    split at h
    ·rename_i q hq
     split at h
     ·rename_i y hy
      cases h
      obtain ⟨g1,g2⟩:=ih (p:=.val c (List.getD x i c.zero)) ⟨h1,h4⟩ (by rw [YU]; exact hf.2) hv hg hq
      have:=Yv3 hy
      subst this
      have:=Ty.off_le ‹Ty.ok a l›
      have hlen:cs.length=n*c.size:=by rw [RepL.length (fun x cs X h=> Rep.length c h) h3,h2]
      have hin:i*c.size+c.size<=n*c.size:=by rw [<-Nat.succ_mul]; exact YTu _ hi
      have hset:=RepL.set (R:=Rep w fz c) (n:=c.size) (fun x cs X h=> ⟨Rep.length c h,Rep.pure c h1 h⟩) i y _ h3 (by omega) g1.2
      refine ⟨⟨h1,by simp [h2],?_⟩,by simp [YU,Ty.same,hf.2]⟩
      rw [Ty.off,Ty.at]
      have e3:cs.take (i*a.size+a.off l)++vs++cs.drop (i*a.size+a.off l+(a.at l).size)=
        cs.take (i*c.size)++(((cs.drop (i*c.size)).take c.size).take (a.off l)++vs++((cs.drop (i*c.size)).take c.size).drop (a.off l+(a.at l).size))++cs.drop (i*c.size+c.size):=by
       rw [hs.1,List.take_take,Nat.min_eq_left (by omega:a.off l<=c.size),List.drop_take,List.drop_drop]
       rw [List.take_add,Ypu,Ypu,Ypu,Ypu,Ypu]
       congr 1
       congr 1
       congr 1
       have e4:cs.drop (i*c.size+c.size)=(cs.drop (i*c.size+(a.off l+(a.at l).size))).drop (c.size - (a.off l+(a.at l).size)):=by
        rw [List.drop_drop]; congr 1; omega
       rw [e4,Ybv,Nat.add_assoc]
      rw [e3]
      exact hset
     ·cases h
    ·cases h
   | _=> simp [YU,Ty.same] at hf
  | _=> simp [fits] at hf
end
end Go.Abs
