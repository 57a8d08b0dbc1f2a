/- Part K3 of the proof: see the last text of the claim. No condition of its own. -/
import Derived.Test.YtddagflhafkbnaaGreatDoorK2
import Derived.Laws.Cells
import GoSem.ClaimKeys
import Derived.Laws.StructEq
import Derived.Laws.Strings
import Derived.Recover
import Derived.ChangeKeysEq
import Derived.Laws.BytesString
import Derived.Laws.Cover4
import Derived.Laws.Append
set_option linter.all false
set_option autoImplicit false
namespace Go.Abs
def zeroCells:Ty->List Value
 | .int k=> [.int k 0]
 | .bool=> [.bool false]
 | .str=> [.string ⟨#[]⟩]
 | .unit=> []
 | .pair a b=> zeroCells a++zeroCells b
 | .st a=> zeroCells a
 | .arr n a=> (List.replicate n (zeroCells a)).flatten
 | .sl _ _=> [.slice none 0 0]
 | .clo _ _ _=> [.nilFunc]
 | _=> [.pointer none]
structure Info (P:Program) (T:Ty) (t:TypeId):Prop where
 info:∃ i,P.info? t=some i/\i.size=T.size/\i.zero=some (mkV T.isAgg (zeroCells T))/\i.bytes<=4096
def Yp1 (T:Ty) (ok:TypeId->Prop) (fs:List Field) (off:Nat):Prop:=∃ f,fs=[f]/\f.offset=off/\0 < T.size/\ok f.type
def Y21 (P:Program):Ty->(TypeId->Prop)×(List Field->Nat->Prop)
 | .pair a b=> (fun _=> False,fun fs off=> ∃ f g l,fs=f::g::l/\f.offset=off/\0 < a.size/\(Y21 P a).1 f.type/\(Y21 P b).2 (g::l) (off+a.size))
 | .unit=> (fun _=> False,fun fs _=> fs=[])
 | .st a=>
  let ok:=fun t=> Info P (.st a) t/\∃ fs,P.underlying t=some (.struct fs)/\(Y21 P a).2 fs.toList 0
  (ok,Yp1 (.st a) ok)
 | .arr n a=>
  let ok:=fun t=> Info P (.arr n a) t/\∃ e,P.underlying t=some (.array n e)/\(Y21 P a).1 e
  (ok,Yp1 (.arr n a) ok)
 | .sl o a=>
  let ok:=fun t=> Info P (.sl o a) t/\∃ e,P.underlying t=some (.slice e)/\(Y21 P a).1 e
  (ok,Yp1 (.sl o a) ok)
 | .int k=>
  let ok:=fun t=> Info P (.int k) t/\P.underlying t=some (.int k)
  (ok,Yp1 (.int k) ok)
 | .bool=>
  let ok:=fun t=> Info P .bool t/\P.underlying t=some .bool
  (ok,Yp1 .bool ok)
 | .str=>
  let ok:=fun t=> Info P .str t/\P.underlying t=some .string
  (ok,Yp1 .str ok)
 | .ptr a=>
  let ok:=fun t=> Info P (.ptr a) t/\∃ e,P.underlying t=some (.pointer e)
  (ok,Yp1 (.ptr a) ok)
 | .rptr a=>
  let ok:=fun t=> Info P (.rptr a) t/\∃ e,P.underlying t=some (.pointer e)
  (ok,Yp1 (.rptr a) ok)
 | .optr a=>
  let ok:=fun t=> Info P (.optr a) t/\∃ e,P.underlying t=some (.pointer e)
  (ok,Yp1 (.optr a) ok)
 | .nilp=>
  let ok:=fun t=> Info P .nilp t/\∃ e,P.underlying t=some (.pointer e)
  (ok,Yp1 .nilp ok)
 | .clo f n a=>
  let ok:=fun t=> Info P (.clo f n a) t/\∃ ps rs v,P.underlying t=some (.func ps rs v)
  (ok,Yp1 (.clo f n a) ok)
def TyOK (P:Program) (T:Ty) (t:TypeId):Prop:=(Y21 P T).1 t
theorem TyOK.info {P:Program} {T:Ty} {t:TypeId} (h:TyOK P T t):∃ i,P.info? t=some i/\i.size=T.size/\i.zero=some (mkV T.isAgg (zeroCells T))/\i.bytes<=4096:=by
 cases T with
 | pair a b=> cases h
 | unit=> cases h
 | _=> exact h.1.info
theorem TyOK.under {P:Program} {T:Ty} {t:TypeId} (h:TyOK P T t):∃ d,P.underlying t=some d/\((match d with | .struct _=> true | .array _ _=> true | _=> false)=T.isAgg):=by
 cases T with
 | pair a b=> cases h
 | unit=> cases h
 | st a=> obtain ⟨_,fs,h,_⟩:=h; exact ⟨_,h,rfl⟩
 | arr n a=> obtain ⟨_,e,h,_⟩:=h; exact ⟨_,h,rfl⟩
 | sl o a=> obtain ⟨_,e,h,_⟩:=h; exact ⟨_,h,rfl⟩
 | int k=> exact ⟨_,h.2,rfl⟩
 | bool=> exact ⟨_,h.2,rfl⟩
 | str=> exact ⟨_,h.2,rfl⟩
 | ptr a=> obtain ⟨_,e,h⟩:=h; exact ⟨_,h,rfl⟩
 | rptr a=> obtain ⟨_,e,h⟩:=h; exact ⟨_,h,rfl⟩
 | optr a=> obtain ⟨_,e,h⟩:=h; exact ⟨_,h,rfl⟩
 | nilp=> obtain ⟨_,e,h⟩:=h; exact ⟨_,h,rfl⟩
 | clo f n a=> obtain ⟨_,ps,rs,v,h⟩:=h; exact ⟨_,h,rfl⟩
theorem Yt8 {P:Program} {t:TypeId} {i:TypeInfo} (h:P.info? t=some i) (w:World):(typeInfo t).run P w=.ok i w:=by simp [typeInfo,h]
theorem Yz {P:Program} {t:TypeId} {d:TypeDesc} (h:P.underlying t=some d) (w:World):(underlying t).run P w=.ok d w:=by simp [underlying,h]
theorem TyOK.sizeOf {P:Program} {T:Ty} {t:TypeId} (h:TyOK P T t) (w:World):(sizeOf t).run P w=.ok T.size w:=by
 obtain ⟨i,h1,h2,_⟩:=h.info
 simp [Go.sizeOf,Yt8 h1,h2]
theorem TyOK.zeroValue {P:Program} {T:Ty} {t:TypeId} (h:TyOK P T t) (w:World):(zeroValue t).run P w=.ok (mkV T.isAgg (zeroCells T)) w:=by
 obtain ⟨i,h1,h2,h3,_⟩:=h.info
 simp [Go.zeroValue,Yt8 h1,h3]
theorem TyOK.isAgg {P:Program} {T:Ty} {t:TypeId} (h:TyOK P T t) (w:World):(isAgg t).run P w=.ok T.isAgg w:=by
 obtain ⟨d,h1,h2⟩:=h.under
 simp only [Go.isAgg,Sem.run_bind,Yz h1,Result.andThen_ok]
 rw [<-h2]
 cases d <;> rfl
theorem Yg4 {agg:Bool} {cs:List Value} (hc:∀ c∈cs,YZ c) (ha:agg=false->cs.length=1):(mkV agg cs).cells.toList=cs:=by
 cases agg with
 | true=> rfl
 | false=>
  obtain ⟨v,rfl⟩:=List.length_eq_one_iff.1 (ha rfl)
  have:=hc v (by simp)
  cases v <;> first | rfl | cases this
theorem Ty.size_one {T:Ty} (h:T.isAgg=false) (hp:∀ a b,T≠.pair a b) (hu:T≠.unit):T.size=1:=by
 cases T <;> simp_all [Ty.isAgg,Ty.size]
theorem TyOK.one {P:Program} {T:Ty} {t:TypeId} (h:TyOK P T t) (ha:T.isAgg=false):T.size=1:=by
 refine Ty.size_one ha ?_ ?_
 ·rintro a b rfl; cases h
 ·rintro rfl; cases h
theorem Y0r {v:Value} (h:YZ v):v.oneCell'=true:=by cases v <;> first | rfl | cases h
theorem Yga {w:World} {b off:Nat} {c:Array Value} {el:TypeId} {fr:Nat×Nat} (h:w.heap[b]? =some (.cells c el fr)):w.cell? ⟨b,off,none⟩=c[off]? :=by
 simp [World.cell?,h]
theorem Yr3 (b off n:Nat):(⟨b,off,none⟩:Addr).add n=⟨b,off+n,none⟩:=by
 unfold Addr.add
 split
 ·rename_i h; subst h; rfl
 ·rfl
theorem Yk6 {P:Program} {w:World} {b off n:Nat} {c:Array Value} {el:TypeId} {fr:Nat×Nat} (h:w.heap[b]? =some (.cells c el fr)) (hn:off+n<=c.size):
  (loadCells ⟨b,off,none⟩ n).run P w=.ok (Yl c off n).toArray w:=by
 have hl:(Yl c off n).length=n:=by simp [Yl]; omega
 have:=run_loadCells_list (P:=P) w ⟨b,off,none⟩ (Yl c off n) (fun j v hj=> by
  rw [Yr3,Yga h]
  have hj':j < n:=by rw [<-hl]; exact (List.getElem?_eq_some_iff.1 hj).1
  rw [Yl,List.getElem?_take_of_lt hj',List.getElem?_drop] at hj
  rw [<-hj,Y4v])
 rw [hl] at this
 exact this
def World.setBlock (w:World) (b:Nat) (o:Obj):World:={ w with heap:=w.heap.setIfInBounds b o }
theorem YB4 {w:World} {b:Nat} {o:Obj} (k:Nat):(World.setBlock w b o).heap[k]? =if k=b then (if b < w.heap.size then some o else none) else w.heap[k]? :=by
 unfold World.setBlock
 by_cases h:k=b
 ·subst h
  simp only [Yku rfl]
  by_cases hk:k < w.heap.size
  ·simp [hk]
  ·simp [hk,Array.getElem?_eq_none (Nat.le_of_not_lt hk)]
 ·simp [h,Array.getElem?_setIfInBounds_ne (Ne.symm h)]
theorem Yx8 (w:World) (b:Nat) (o:Obj) (Y:List Nat) (h:b∈Y):Keep w Y (World.setBlock w b o):=by
 refine ⟨rfl,rfl,rfl,by simp [World.setBlock],fun k _ hk=> ?_⟩
 rw [YB4,Yju (fun e=> by subst e; exact hk h)]
theorem Y73 {w:World} {b:Nat} {o:Obj} (h:w.heap[b]? =some o):b < w.heap.size:=by
 rcases Nat.lt_or_ge b w.heap.size with h' | h'
 ·exact h'
 ·rw [Array.getElem?_eq_none h'] at h; cases h
theorem Ygt {w:World} {b off:Nat} {c:Array Value} {el:TypeId} {fr:Nat×Nat} (h:w.heap[b]? =some (.cells c el fr)) (v:Value):
  w.setCell ⟨b,off,none⟩ v=World.setBlock w b (.cells (c.setIfInBounds off v) el fr):=by
 unfold World.setCell World.setBlock
 congr 1
 apply Array.ext_getElem?
 intro k
 rw [Array.getElem?_modify]
 by_cases hk:k=b
 ·subst hk
  have e:=(Array.getElem?_eq_some_iff.1 h).2
  simp [e,Y73 h]
 ·rw [Yju (Ne.symm hk),Array.getElem?_setIfInBounds_ne (Ne.symm hk)]
theorem Yet (w:World) (b:Nat) (o o':Obj):World.setBlock (World.setBlock w b o) b o'=World.setBlock w b o':=by
 unfold World.setBlock
 simp
theorem Y06 {w:World} {b off:Nat} {c:Array Value} {el:TypeId} {fr:Nat×Nat} (h:w.heap[b]? =some (.cells c el fr)) (hF:FrOK fr c.size) (ho:off < c.size):w.frozen? ⟨b,off,none⟩=false:=by
 have:=hF off ho
 simp only [World.frozen?,h]
 obtain ⟨lo,hi⟩:=fr
 simp only [Bool.and_eq_false_imp,Yxu,decide_eq_false_iff_not]
 intro h1 h2
 exact this ⟨h1,h2⟩
def YH (c:Array Value) (off:Nat) (vs:List Value):Array Value:=(c.toList.take off++vs++c.toList.drop (off+vs.length)).toArray
theorem Yu5 {c:Array Value} {off:Nat} {vs:List Value} (h:off+vs.length<=c.size):(YH c off vs).size=c.size:=by
 simp [YH]; omega
theorem YNb (c:Array Value) (off:Nat):YH c off []=c:=by simp [YH]
theorem Y9i {c:Array Value} {off:Nat} {v:Value} {vs:List Value} (h:off < c.size):YH (c.setIfInBounds off v) (off+1) vs=YH c off (v::vs):=by
 unfold YH
 congr 1
 rw [Array.toList_setIfInBounds]
 have e1:(c.toList.set off v).take (off+1)=c.toList.take off++[v]:=by
  rw [List.take_set,List.take_add_one,Ywu (by simpa using h)]
  simp only [Option.toList_some]
  rw [List.set_append_right _ _ (by simp; omega)]
  rw [show off - (List.take off c.toList).length=0 by simp; omega]
  rfl
 have e2:(c.toList.set off v).drop (off+1+vs.length)=c.toList.drop (off+(v::vs).length):=by
  rw [List.drop_set_of_lt (by omega),Ynu]
  congr 1; omega
 rw [e1,e2]
 simp
theorem Yl6 {P:Program} {b:Nat} {el:TypeId} {fr:Nat×Nat}:∀ (vs:List Value) (i off:Nat) (w:World) (c:Array Value),w.heap[b]? =some (.cells c el fr)->FrOK fr c.size->off+i+vs.length<=c.size->(∀ v∈vs,YZ v)->
  (storeCells ⟨b,off,none⟩ vs i).run P w=.ok () (World.setBlock w b (.cells (YH c (off+i) vs) el fr))
 | [],i,off,w,c,h,_,_,_=> by
  have:World.setBlock w b (.cells c el fr)=w:=by
   unfold World.setBlock
   have:w.heap.setIfInBounds b (.cells c el fr)=w.heap:=by
    apply Array.ext_getElem?
    intro k
    by_cases hk:k=b
    ·subst hk
     have e:=(Array.getElem?_eq_some_iff.1 h).2
     simp [Y73 h,e]
    ·rw [Array.getElem?_setIfInBounds_ne (Ne.symm hk)]
   rw [this]
  simp [storeCells,YNb,this]
 | v::vs,i,off,w,c,h,hF,hl,hv=> by
  have hlt:off+i < c.size:=by simp at hl; omega
  have hst:(store ((⟨b,off,none⟩:Addr).add i) v).run P w=.ok () (World.setBlock w b (.cells (c.setIfInBounds (off+i) v) el fr)):=by
   rw [Yr3,run_store P w _ v _ (Y0r (hv v (by simp))),Yga h]
   simp only [Y1v hlt,Y06 h hF hlt,YSu,if_false]
   rw [Ygt h]
  have h':(World.setBlock w b (.cells (c.setIfInBounds (off+i) v) el fr)).heap[b]? =some (.cells (c.setIfInBounds (off+i) v) el fr):=by
   rw [YB4,Yku rfl,Yku (Y73 h)]
  have ih:=Yl6 (P:=P) vs (i+1) off _ _ h' (by simpa using hF) (by simp at hl ⊢; omega) (fun x hx=> hv x (Y0v _ hx))
  simp only [storeCells,Sem.run_bind]
  rw [hst]
  simp only [Result.andThen_ok,ih,Yet]
  rw [<-Nat.add_assoc,Y9i hlt]
theorem YZs {P:Program} {T:Ty} {t:TypeId} (ht:TyOK P T t) {w:World} {b off:Nat} {c:Array Value} {el:TypeId} {fr:Nat×Nat} (h:w.heap[b]? =some (.cells c el fr)) (hn:off+T.size<=c.size):
  (loadVar t ⟨b,off,none⟩).run P w=.ok (mkV T.isAgg (Yl c off T.size)) w:=by
 unfold loadVar
 simp only [Sem.run_bind,ht.isAgg w,Result.andThen_ok]
 cases ha:T.isAgg with
 | true=>
  simp only [if_true,Sem.run_bind,ht.sizeOf w,Result.andThen_ok,Yk6 h hn,Sem.run_pure]
  rfl
 | false=>
  have h1:=ht.one ha
  simp only [YSu,if_false]
  rw [run_load,Yga h]
  have hlt:off < c.size:=by omega
  rw [Y1v hlt]
  simp only
  congr 1
  rw [h1,Yl]
  simp [mkV,List.take_one,List.head?_drop,hlt]
theorem YUh {P:Program} {T:Ty} {t:TypeId} (ht:TyOK P T t) {w:World} {b off:Nat} {c:Array Value} {el:TypeId} {fr:Nat×Nat} (h:w.heap[b]? =some (.cells c el fr)) (hF:FrOK fr c.size) {cs:List Value} (hc:∀ x∈cs,YZ x) (hl:cs.length=T.size) (hn:off+T.size<=c.size):
  (storeVar t ⟨b,off,none⟩ (mkV T.isAgg cs)).run P w=.ok () (World.setBlock w b (.cells (YH c off cs) el fr)):=by
 have hcells:=Yg4 (agg:=T.isAgg) hc (fun ha=> by rw [hl,ht.one ha])
 have hsz:(mkV T.isAgg cs).cells.size=T.size:=by rw [<-YYu,hcells,hl]
 unfold storeVar
 simp only [Sem.run_bind,ht.sizeOf w,Result.andThen_ok,hsz,ne_eq,not_true_eq_false,if_false,Sem.run_pure,hcells]
 have:=Yl6 (P:=P) cs 0 off w c h hF (by omega) hc
 simpa using this
end Go.Abs
namespace Go.Abs
theorem Ty.same_eq:∀ {T t:Ty},T.same t=true->t.eqOk=true->T=t:=by
 intro T
 induction T with
 | int j=>
  intro t h _
  cases t <;> simp only [Ty.same,YSu] at h
  rename_i k _
  cases e:Y93 j k with
  | none=> rw [e] at h; cases h
  | some p=> rw [p.down]
 | bool=> intro t h _; cases t <;> first | rfl | simp [Ty.same] at h
 | str=> intro t h _; cases t <;> first | rfl | simp [Ty.same] at h
 | unit=> intro t h _; cases t <;> first | rfl | simp [Ty.same] at h
 | pair a b iha ihb=>
  intro t h e
  cases t <;> simp only [Ty.same,Ylu,YSu] at h
  simp only [Ty.eqOk,Ylu] at e
  rw [iha h.1 e.1,ihb h.2 e.2]
 | st a ih=>
  intro t h e
  cases t <;> simp only [Ty.same,YSu] at h
  simp only [Ty.eqOk] at e
  rw [ih h e]
 | arr n a ih=>
  intro t h e
  cases t <;> simp only [Ty.same,Ylu,YSu] at h
  simp only [Ty.eqOk] at e
  rw [ih h.2 e,YOu h.1]
 | sl o a _=> intro t h e; cases t <;> simp [Ty.same,Ty.eqOk] at h e
 | ptr a _=> intro t h e; cases t <;> simp [Ty.same,Ty.same.isPtr,Ty.eqOk] at h e
 | rptr a _=> intro t h e; cases t <;> simp [Ty.same,Ty.same.isPtr,Ty.eqOk] at h e
 | optr a _=> intro t h e; cases t <;> simp [Ty.same,Ty.same.isPtr,Ty.eqOk] at h e
 | clo f n a _=> intro t h e; cases t <;> simp [Ty.same,Ty.eqOk] at h e
 | nilp=> intro t h e; cases t <;> simp [Ty.same,Ty.same.isPtr,Ty.eqOk] at h e
def EqAll (E:Env):Prop:=∀ t T,E.ty t=some T->E.eqs t=true->T.eqOk=true->T.isAgg=true->∀ (w:World) (fz:Nat->Prop) (x y:T.den) (cs cs':List Value),Rep w fz T x cs []->Rep w fz T y cs' []->
 (∀ op a b,(eqGuard op t a b (.agg cs.toArray) (.agg cs'.toArray)).run E.P w=.ok () w)/\(Op.equal t (.agg cs.toArray) (.agg cs'.toArray)).run E.P w=.ok (T.beq x y) w
structure GuardOK (E:Env) (G:Guard):Prop where
 go:E.goes G.clo=true
 idle:∀ (caps:Array Value) (w:World),CallsD E.P G.clo caps .returning w fun e u' w'=> (∃ v,e=.returned v)/\u'=.returning/\w'=w
 pan:∀ {w0:World} {X0:Ent} {fz:Nat->Prop} {m:Maps} {s s':St} {a:Act} {w:World} {i:TypeId} {t:Ty} {x:t.den} {cs:List Value},Rel w0 X0 fz m [] s a w->t.pure=true->Rep w fz t x cs []->G.pan i t x s=some s'->
  CallsD E.P G.clo (G.caps.map fun k=> a.tmps.getD k undef).toArray (.panicking [{ v:=.iface i (mkV t.isAgg cs),recovered:=false }]) w fun e u' w'=>
   (∃ v,e=.returned v)/\settle u'=.returning/\∃ fz' m',Rel w0 X0 fz' m' [] s' a w'
structure EnvOK (E:Env):Prop where
 mixed:E.P.follows .mixedOrders=true
 ty:∀ t T,E.ty t=some T->TyOK E.P T t
 elem:∀ t e,E.elem t=some e->E.P.underlying t=some (.slice e)
 nf:∀ t fs,E.P.underlying t=some (.struct fs)->E.nf t=fs.size
 eqs:∀ t,E.eqs t=true->E.P.keyTypeAt 20 t=true/\E.P.eqGuardType E.P.depth t=false
 goes : ∀ f, E.goes f = true → (∃ fn, E.P.funcs[f]? = some fn ∧ fn.body.isNone = false ∧ (fn.name == "runtime.NumGoroutine") = false) ∧ ∀ ps, E.code (E.vary f ps) = f
 grds:∀ N G,E.grd N=some G->GuardOK E G
section
variable {w0:World} {X0:Ent} {a:Act} {w:World} {fz:Nat->Prop} {m:Maps} {s:St} {E:Env}
theorem RepS.val {T:Ty} {x:T.den} {cs:List Value} (hp:T.pure=true) (h:Rep w fz T x cs []):RepS w fz m s (.val T x) (mkV T.isAgg cs):=⟨cs,⟨hp,h⟩,rfl⟩
theorem YN1 (k:IntKind) (n:Int):RepS w fz m s (.val (.int k) n) (.int k n):=⟨[.int k n],⟨rfl,rfl,rfl⟩,rfl⟩
theorem YG2 (b:Bool):RepS w fz m s (.val .bool b) (.bool b):=⟨[.bool b],⟨rfl,rfl,rfl⟩,rfl⟩
theorem Y12 (l:List UInt8):RepS w fz m s (.val .str l) (.string ⟨l.toArray⟩):=⟨[.string ⟨l.toArray⟩],⟨rfl,rfl,rfl⟩,rfl⟩
theorem RepS.int {k:IntKind} {n:Int} {v:Value} (h:RepS w fz m s (.val (.int k) n) v):v=.int k n:=by
 obtain ⟨cs,⟨_,rfl,_⟩,rfl⟩:=h; rfl
theorem RepS.bool {b:Bool} {v:Value} (h:RepS w fz m s (.val .bool b) v):v=.bool b:=by
 obtain ⟨cs,⟨_,rfl,_⟩,rfl⟩:=h; rfl
theorem RepS.str {l:List UInt8} {v:Value} (h:RepS w fz m s (.val .str l) v):v=.string ⟨l.toArray⟩:=by
 obtain ⟨cs,⟨_,rfl,_⟩,rfl⟩:=h; rfl
theorem RepS.nilp {v:Value} (h:RepS w fz m s .nilp v):v=.pointer none:=by
 obtain ⟨cs,rfl,rfl⟩:=h; rfl
theorem RepS.nils {v:Value} (h:RepS w fz m s .nils v):v=.slice none 0 0:=by
 obtain ⟨cs,rfl,rfl⟩:=h; rfl
theorem RepS.reads {T:Ty} {x:T.den} {v:Value} (h:RepS w fz m s (.val T x) v):∃ cs,T.pure=true/\Rep w fz T x cs []/\v=mkV T.isAgg cs:=by
 obtain ⟨cs,⟨h1,h2⟩,rfl⟩:=h; exact ⟨cs,h1,h2,rfl⟩
theorem RepS.const (v:Value):RepS w fz m s (Yja v) v:=by
 unfold Yja
 split
 ·exact YN1 _ _
 ·exact YG2 _
 ·rename_i s; cases s; exact Y12 _
 ·exact ⟨_,rfl,rfl⟩
 ·exact ⟨_,rfl,rfl⟩
 ·trivial
theorem RepS.glob (hg:Glob E w fz) (g:Nat):∀ l,(∀ x∈l,x∈E.gl)->RepS w fz m s (YN7 g l) (.pointer (some ⟨g,0,none⟩))
 | [],_=> trivial
 | (n,⟨t,x⟩)::l,h=> by
  simp only [YN7]
  cases e:Nat.beq g n with
  | false=> exact RepS.glob hg g l (fun y hy=> h y (Y0v _ hy))
  | true=>
   have:=YOu e
   subst this
   obtain ⟨h1,h2,c,el,fr,h3,h4⟩:=hg.tab g t x (h _ (List.mem_cons_self ..))
   have hsz:c.size=t.size:=by rw [<-YYu,h4.length]
   refine ⟨_,⟨h1,.nil _,g,0,c,el,fr,h3,h2,by omega,?_,rfl⟩,?_⟩
   ·rw [Yl,YZu,YWu (by simp [hsz])]; exact h4
   ·simp [mkV,Ty.off_nil,PV.isAgg]
theorem Rel.opd {Y:List Nat} (h:Rel w0 X0 fz m Y s a w) (hg:Glob E w fz) (x:Operand):RepS w fz m s (s.opd E x) (a.eval x):=by
 cases x with
 | tmp t=> exact h.slots t
 | const v=> exact RepS.const v
 | func f=> exact ⟨_,⟨[],rfl,rfl,rfl,rfl,rfl⟩,rfl⟩
 | global g=> exact RepS.glob hg g _ (fun _ h=> h)
def Does (P:Program) (w0:World) (X0:Ent) (a:Act) (w:World) (dst:Option Tmp) (x:Sem Next) (s':St):Prop:=
 ∃ n v w' fz' m',x.run P w=.ok n w'/\(n=.value v\/(n=.skip/\v=undef))/\Rel w0 X0 fz' m' [] s' (a.put dst v) w'
theorem Does.value {P:Program} {dst:Option Tmp} {x:Sem Value} {p:PV} {v:Value} (h:Rel w0 X0 fz m [] s a w) (hd:∀ k,dst=some k->k < a.tmps.size) (hx:x.run P w=.ok v w) (hv:RepS w fz m s p v):
  Does P w0 X0 a w dst (x >>=fun v=> pure (.value v)) (s.putO dst p):=by
 exact ⟨.value v,v,w,fz,m,by simp [hx],.inl rfl,h.putO hd hv⟩
theorem YZa {d:Option Nat} {r:Option (Bool×PV)} {s':St} (h:okB s d r=some (true,s')):∃ p,r=some (true,p)/\s'=s.putO d p:=by
 cases r with
 | none=> cases h
 | some q=> obtain ⟨c,v⟩:=q; cases h; exact ⟨v,rfl,rfl⟩
theorem YD1 {d:Option Nat} {p:PV} {s':St} (h:ok1 s d p=some (true,s')):s'=s.putO d p:=by
 unfold ok1 at h; injection h with h; injection h with h1 h2; exact h2.symm
theorem Ye5 {r:Option St} {s':St} (h:okS r=some (true,s')):r=some s':=by
 unfold okS at h; split at h
 ·injection h with h; injection h with h1 h2; rw [h2]
 ·cases h
theorem Y0u {P:Program} {op:UnOp} {p q:PV} {v:Value} (h:unPV op p=some q) (hv:RepS w fz m s p v):∃ u,(Op.unary op v).run P w=.ok u w/\RepS w fz m s q u:=by
 unfold unPV at h
 split at h
 ·rename_i k n
  have:=hv.int; subst this
  split at h
  ·cases h; exact ⟨_,rfl,YN1 _ _⟩
  ·cases h; exact ⟨_,rfl,YN1 _ _⟩
  ·cases h
 ·rename_i b
  have:=hv.bool; subst this
  split at h
  ·cases h; exact ⟨_,rfl,YG2 _⟩
  ·cases h
 ·cases h
theorem YYq {P:Program} {op:BinOp} {t:TypeId} {k:IntKind} {x y:Int} {q:PV} (hop:op≠.shl/\op≠.shr) (h:YLa op k x y=some (true,q)):∃ u,(binOp op t (.int k x) (.int k y)).run P w=.ok u w/\RepS w fz m s q u:=by
 unfold YLa at h
 cases op <;> simp only [reduceCtorEq,Ytu,YJu,true_and,bne_iff_ne,ne_eq] at h
 all_goals first
  | (obtain ⟨h1,rfl⟩:=h; refine ⟨_,?_,YN1 _ _⟩; simp [binOp,Op.intDiv,h1]; done)
  | (subst h; refine ⟨_,?_,YN1 _ _⟩; simp [binOp,Op.intArith,Op.intBits,bits]; done)
  | (subst h; refine ⟨_,?_,YG2 _⟩; simp [binOp,Op.intCmp]; done)
theorem YL2 (l:List UInt8):(⟨l.toArray⟩:ByteArray).size=l.length:=by simp [ByteArray.size]
theorem Yg9 (l:List UInt8):(⟨l.toArray⟩:ByteArray).toList=l:=by
 rw [ByteArray.toList_eq]
theorem YDt {P:Program} {op:BinOp} {t:TypeId} {x y:List UInt8} {q:PV} (h:YQb op x y=some (true,q)):∃ u,(binOp op t (.string ⟨x.toArray⟩) (.string ⟨y.toArray⟩)).run P w=.ok u w/\RepS w fz m s q u:=by
 unfold YQb at h
 cases op <;> simp only [reduceCtorEq,Ytu,YJu,true_and,Yxu] at h
 case add=>
  obtain ⟨h1,rfl⟩:=h
  refine ⟨.string ⟨(x++y).toArray⟩,?_,Y12 _⟩
  have h2:¬(((⟨x.toArray⟩:ByteArray).size+(⟨y.toArray⟩:ByteArray).size:Nat):Int) > IntKind.i64.max:=by
   rw [YL2,YL2]
   have:IntKind.i64.max=2 ^ 63 - 1:=by decide
   rw [this]; omega
  simp only [binOp,Op.stringOp,Yju h2,Sem.run_pure]
  congr 2
 all_goals (subst h; refine ⟨_,?_,YG2 _⟩; simp only [binOp,Op.stringOp,Yg9,Sem.run_pure]; done)
theorem RepS.addr {b:Base} {l:List Step} {v:Value} (h:RepS w fz m s (.addr b l) v):∃ x,v=.pointer (some x)/\RepP w fz m s (.addr b l) [.pointer (some x)]:=by
 obtain ⟨cs,hc,rfl⟩:=h
 cases b with
 | box b=>
  rcases hc with ⟨T,o,c,e,h1,rfl⟩ | ⟨l',n,e,e2,rfl⟩
  ·exact ⟨_,rfl,.inl ⟨T,o,c,e,h1,rfl⟩⟩
  ·exact ⟨_,rfl,.inr ⟨l',n,e,e2,rfl⟩⟩
 | row r i=> obtain ⟨t,o,xs,b,off,len,cap,h1,h2,h3,h4,rfl⟩:=hc; exact ⟨_,rfl,t,o,xs,b,off,len,cap,h1,h2,h3,h4,rfl⟩
 | fbox t x=> obtain ⟨h1,h2,b,off,c,el,fr,h3,h4,h5,h6,rfl⟩:=hc; exact ⟨_,rfl,h1,h2,b,off,c,el,fr,h3,h4,h5,h6,rfl⟩
def Value.flat:Value->Bool
 | .nilIface=> false
 | .agg _=> false
 | _=> true
theorem YWs {P:Program} {op:BinOp} {t:TypeId} {x y:Operand} {u v:Value} (hu:Value.flat u=true):(eqGuard op t x y u v).run P w=.ok () w:=by
 cases op <;> cases u <;> first | rfl | cases hu
theorem YPh {P:Program} {t e:TypeId} {b:Option Addr} (ht:P.underlying t=some (.pointer e)):(Op.equal t (.pointer none) (.pointer b)).run P w=.ok b.isNone w:=by
 have:∀ d,(Op.equalIn (d+1) t (.pointer none) (.pointer b)).run P w=.ok b.isNone w:=fun d=> by
  simp only [Op.equalIn,Sem.run_bind,Yz ht,Result.andThen_ok,Sem.run_pure]
 exact this 9999
theorem YXs {P:Program} {t e:TypeId} {b:Option Addr} (ht:P.underlying t=some (.pointer e)):(Op.equal t (.pointer b) (.pointer none)).run P w=.ok b.isNone w:=by
 have:∀ d,(Op.equalIn (d+1) t (.pointer b) (.pointer none)).run P w=.ok b.isNone w:=fun d=> by
  cases b <;> simp only [Op.equalIn,Sem.run_bind,Yz ht,Result.andThen_ok,Sem.run_pure] <;> rfl
 exact this 9999
theorem YOh {P:Program} {t:TypeId} {b c:Bool} (ht:P.underlying t=some .bool):(Op.equal t (.bool b) (.bool c)).run P w=.ok (b==c) w:=by
 have:∀ d,(Op.equalIn (d+1) t (.bool b) (.bool c)).run P w=.ok (b==c) w:=fun d=> by
  simp only [Op.equalIn,Sem.run_bind,Yz ht,Result.andThen_ok,Sem.run_pure]
 exact this 9999
theorem YSh {P:Program} {op:BinOp} {t:TypeId} {j k:IntKind} {n b:Int} (hb:0<=b) (hop:op=.shl\/op=.shr):(binOp op t (.int j n) (.int k b)).run P w=.ok (.int j (if op=.shl then shl j n b else shr j n b)) w:=by
 have:¬b < 0:=by omega
 rcases hop with rfl | rfl <;> simp [binOp,Op.shift,this,shl,shr]
theorem Ymb {P:Program} {op:BinOp} {t:TypeId} {T:Option Ty} {b:Bool} {u v:Value} {r:PV} (hT:∀ A,T=some (.ptr A)->∃ e,P.underlying t=some (.pointer e))
  (h:binPV.ptrBin op T b=some (true,r)) (hu:∃ x,u=.pointer x) (hv:∃ x,v=.pointer x) (he:∀ e,P.underlying t=some (.pointer e)->(Op.equal t u v).run P w=.ok b w):
  ∃ z,(binOp op t u v).run P w=.ok z w/\RepS w fz m s r z:=by
 unfold binPV.ptrBin at h
 obtain ⟨x,rfl⟩:=hu
 obtain ⟨y,rfl⟩:=hv
 split at h
 ·obtain ⟨e,ht⟩:=hT _ rfl
  have:=he e ht
  split at h
  ·cases h
   exact ⟨_,by simp [binOp,this],YG2 _⟩
  ·cases h
   exact ⟨_,by simp [binOp,this],YG2 _⟩
  ·cases h
 ·cases h
theorem Y7r {a b:IntKind} {h:PLift (a=b)} (_:Y93 a b=some h):a=b:=h.down
theorem Yam (hE:EnvOK E) (hqe:EqAll E) {op:BinOp} {t:TypeId} {x y:Operand} {p q r:PV} {u v:Value} (h:binPV op (E.ty t) (E.eqs t) p q=some (true,r)) (hp:RepS w fz m s p u) (hq:RepS w fz m s q v):
  ∃ z,((eqGuard op t x y u v >>=fun _=> binOp op t u v):Sem Value).run E.P w=.ok z w/\RepS w fz m s r z:=by
 have hT:∀ A,E.ty t=some (.ptr A)->∃ e,E.P.underlying t=some (.pointer e):=fun A hA=> (hE.ty _ _ hA).2
 have guard:Value.flat u=true->(∃ z,(binOp op t u v).run E.P w=.ok z w/\RepS w fz m s r z)->∃ z,((eqGuard op t x y u v >>=fun _=> binOp op t u v):Sem Value).run E.P w=.ok z w/\RepS w fz m s r z:=by
  rintro hf ⟨z,h1,h2⟩
  exact ⟨z,by simp [YWs hf,h1],h2⟩
 unfold binPV at h
 split at h
 ·rename_i j n k n'
  have:=hp.int; subst this
  have:=hq.int; subst this
  refine guard rfl ?_
  split at h
  ·injection h with h
   injection h with h1 h2
   subst h2
   exact ⟨_,YSh (by simpa using h1) (.inl rfl),YN1 _ _⟩
  ·injection h with h
   injection h with h1 h2
   subst h2
   exact ⟨_,YSh (by simpa using h1) (.inr rfl),YN1 _ _⟩
  ·split at h
   ·rename_i e
    have:=Y7r e; subst this
    exact YYq ⟨by assumption,by assumption⟩ h
   ·cases h
 ·have:=hp.str; subst this
  have:=hq.str; subst this
  exact guard rfl (YDt h)
 ·have:=hp.bool; subst this
  have:=hq.bool; subst this
  refine guard rfl ?_
  split at h
  ·rename_i hb
   obtain ⟨_,hb⟩:=hE.ty _ _ hb
   cases h
   exact ⟨_,by simp [binOp,YOh hb],YG2 _⟩
  ·rename_i hb
   obtain ⟨_,hb⟩:=hE.ty _ _ hb
   cases h
   exact ⟨_,by simp [binOp,YOh hb],YG2 _⟩
  ·cases h
 ·split at h
  ·rename_i p1 p2 t' x' u' y' n1 n2 n3 _ _ z T hz hT'
   cases hb:(t'.eqOk&&(T.same t'&&E.eqs t)) with
   | false=> rw [hb] at h; cases h
   | true=>
    rw [hb,Ygu] at h
    simp only [Ylu] at hb
    obtain ⟨b1,b2,b3⟩:=hb
    have:=Ty.same_eq b2 b1
    subst this
    have hz':u'=T/\y' ≍ z:=by
     unfold Ty.cast at hz
     split at hz
     ·rename_i e _
      subst e
      cases hz
      exact ⟨rfl,HEq.rfl⟩
     ·cases hz
    obtain ⟨rfl,hyz⟩:=hz'
    cases hyz
    have hok:=hE.ty t u' hT'
    have ha:u'.isAgg=true:=by
     cases u' with
     | int k=> exact (n1 k _ k _ rfl HEq.rfl rfl HEq.rfl).elim
     | bool=> exact (n3 _ _ rfl HEq.rfl rfl HEq.rfl).elim
     | str=> exact (n2 _ _ rfl HEq.rfl rfl HEq.rfl).elim
     | unit=> cases hok
     | pair a b=> cases hok
     | st a=> rfl
     | arr n a=> rfl
     | _=> cases b1
    obtain ⟨cs,_,r1,rfl⟩:=hp.reads
    obtain ⟨cs',_,r2,rfl⟩:=hq.reads
    rw [ha]
    obtain ⟨g1,g2⟩:=hqe t u' hT' b3 b1 ha w fz _ _ cs cs' r1 r2
    split at h
    ·cases h
     refine ⟨.bool (u'.beq x' y'),?_,YG2 _⟩
     have e1:(binOp .eql t (mkV true cs) (mkV true cs')).run E.P w=.ok (.bool (u'.beq x' y')) w:=by
      show (binOp .eql t (.agg cs.toArray) (.agg cs'.toArray)).run E.P w=_
      have g2:(Op.equalIn 10000 t (.agg cs.toArray) (.agg cs'.toArray)).run E.P w=_:=g2
      rw [run_eql_struct,g2]; rfl
     have g1:(eqGuard BinOp.eql t x y (mkV true cs) (mkV true cs')).run E.P w=.ok () w:=g1 _ _ _
     simp only [Sem.run_bind,g1,Result.andThen_ok,e1]
    ·cases h
     refine ⟨.bool (!u'.beq x' y'),?_,YG2 _⟩
     have e1:(binOp .neq t (mkV true cs) (mkV true cs')).run E.P w=.ok (.bool (!u'.beq x' y')) w:=by
      show (binOp .neq t (.agg cs.toArray) (.agg cs'.toArray)).run E.P w=_
      have g2:(Op.equalIn 10000 t (.agg cs.toArray) (.agg cs'.toArray)).run E.P w=_:=g2
      rw [run_neq_struct,g2]; rfl
     have g1:(eqGuard BinOp.neq t x y (mkV true cs) (mkV true cs')).run E.P w=.ok () w:=g1 _ _ _
     simp only [Sem.run_bind,g1,Result.andThen_ok,e1]
    ·cases h
  ·cases h
 ·have:=hp.nilp; subst this
  have:=hq.nilp; subst this
  exact guard rfl (Ymb hT h ⟨_,rfl⟩ ⟨_,rfl⟩ fun e he=> YPh he)
 ·have:=hp.nilp; subst this
  obtain ⟨z,rfl,_⟩:=hq.addr
  exact guard rfl (Ymb hT h ⟨_,rfl⟩ ⟨_,rfl⟩ fun e he=> YPh he)
 ·have:=hq.nilp; subst this
  obtain ⟨z,rfl,_⟩:=hp.addr
  exact guard rfl (Ymb hT h ⟨_,rfl⟩ ⟨_,rfl⟩ fun e he=> YXs he)
 ·cases h
end
end Go.Abs
namespace Go.Abs
theorem Ty.same_path {T:Ty} {l:List Step} (hl:T.ok l):∀ {t:Ty},T.same t=true->t.ok l/\t.off l=T.off l/\(T.at l).same (t.at l)=true:=by
 induction hl with
 | nil T=> intro t h; exact ⟨.nil _,by rw [Ty.off_nil,Ty.off_nil],by rw [Ty.at_nil,Ty.at_nil]; exact h⟩
 | @fst a b l _ ih=>
  intro t h
  cases t <;> simp only [Ty.same,Ylu,YSu] at h
  obtain ⟨h1,h2,h3⟩:=ih h.1
  exact ⟨.fst h1,h2,h3⟩
 | @snd a b l _ ih=>
  intro t h
  cases t <;> simp only [Ty.same,Ylu,YSu] at h
  obtain ⟨h1,h2,h3⟩:=ih h.2
  refine ⟨.snd h1,?_,h3⟩
  simp only [Ty.off,h2,(Ty.same_size h.1).1]
 | @inn a l _ ih=>
  intro t h
  cases t <;> simp only [Ty.same,YSu] at h
  obtain ⟨h1,h2,h3⟩:=ih h
  exact ⟨.inn h1,h2,h3⟩
 | @idx n i a l hi _ ih=>
  intro t h
  cases t <;> simp only [Ty.same,Ylu,YSu] at h
  obtain ⟨h1,h2,h3⟩:=ih h.2
  have:=YOu h.1
  subst this
  refine ⟨.idx hi h1,?_,h3⟩
  simp only [Ty.off,h2,(Ty.same_size h.2).1]
theorem Yrr {P:Program} {A:Ty} {ok:TypeId->Prop} {fs:List Field} {off:Nat} (h:Yp1 A ok fs off) {f:Nat} {fd:Field} (hf:fs[f]? =some fd):
  A.ok (Y41 fs.length f)/\fd.offset=off+A.off (Y41 fs.length f)/\A.at (Y41 fs.length f)=A/\ok fd.type/\0 < A.size:=by
 obtain ⟨g,rfl,h1,h2,h3⟩:=h
 have:f=0:=by
  have:=(List.getElem?_eq_some_iff.1 hf).1
  simp at this; exact this
 subst this
 have hg:g=fd:=by simpa using hf
 subst hg
 refine ⟨.nil _,?_,Ty.at_nil _,h3,h2⟩
 show g.offset=off+A.off []
 rw [Ty.off_nil]; exact h1
theorem YYt {P:Program} {T:Ty} (h1:∀ a b,T≠.pair a b) (h2:T≠.unit):(Y21 P T).2=Yp1 T (Y21 P T).1:=by
 cases T with
 | pair a b=> exact absurd rfl (h1 a b)
 | unit=> exact absurd rfl h2
 | _=> rfl
theorem Ymq {P:Program} (A:Ty):∀ {fs:List Field} {off:Nat},(Y21 P A).2 fs off->∀ {f:Nat} {fd:Field},fs[f]? =some fd->
  A.ok (Y41 fs.length f)/\fd.offset=off+A.off (Y41 fs.length f)/\TyOK P (A.at (Y41 fs.length f)) fd.type/\0 < (A.at (Y41 fs.length f)).size:=by
 induction A with
 | pair a b iha ihb=>
  rintro fs off ⟨g,h,l,rfl,h1,h2,h3,h4⟩ f fd hf
  cases f with
  | zero=>
   cases hf
   refine ⟨.fst (.nil _),?_,?_,?_⟩
   ·show g.offset=off+a.off []; rw [Ty.off_nil]; exact h1
   ·show TyOK P (a.at []) g.type; rw [Ty.at_nil]; exact h3
   ·show 0 < (a.at []).size; rw [Ty.at_nil]; exact h2
  | succ f=>
   obtain ⟨g1,g2,g3,g4⟩:=ihb h4 (f:=f) hf
   refine ⟨.snd g1,?_,g3,g4⟩
   rw [g2,Nat.add_assoc]
   rfl
 | unit=> rintro fs off rfl f fd hf; cases hf
 | _=>
  intro fs off h f fd hf
  rw [YYt (by simp) (by simp)] at h
  obtain ⟨h1,h2,h3,h4,h5⟩:=Yrr (P:=P) h hf
  exact ⟨h1,h2,by rw [h3]; exact h4,by rw [h3]; exact h5⟩
theorem YA8 {E:Env} (hE:EnvOK E) {T:Ty} {t:TypeId} (ht:TyOK E.P T t) {fs:Array Field} (hu:E.P.underlying t=some (.struct fs)) {f:Nat} {fd:Field} (hf:fs[f]? =some fd):
  T.ok (.inn::Y41 (E.nf t) f)/\fd.offset=T.off (.inn::Y41 (E.nf t) f)/\TyOK E.P (T.at (.inn::Y41 (E.nf t) f)) fd.type/\0 < (T.at (.inn::Y41 (E.nf t) f)).size:=by
 have key:∀ A,T=.st A->T.ok (.inn::Y41 (E.nf t) f)/\fd.offset=T.off (.inn::Y41 (E.nf t) f)/\TyOK E.P (T.at (.inn::Y41 (E.nf t) f)) fd.type/\0 < (T.at (.inn::Y41 (E.nf t) f)).size:=by
  rintro A rfl
  obtain ⟨_,fs',h1,h2⟩:=ht
  rw [hu] at h1
  cases h1
  rw [hE.nf t fs hu]
  have hf':fs.toList[f]? =some fd:=by rw [Y4v]; exact hf
  obtain ⟨g1,g2,g3,g4⟩:=Ymq A h2 hf'
  rw [YYu] at g1 g2 g3 g4
  exact ⟨.inn g1,by rw [g2,Y2v]; rfl,g3,g4⟩
 cases T with
 | st a=> exact key a rfl
 | pair a b=> cases ht
 | unit=> cases ht
 | int k=> have:=ht.2; rw [hu] at this; cases this
 | bool=> have:=ht.2; rw [hu] at this; cases this
 | str=> have:=ht.2; rw [hu] at this; cases this
 | arr n a=> obtain ⟨_,e,h,_⟩:=ht; rw [hu] at h; cases h
 | sl o a=> obtain ⟨_,e,h,_⟩:=ht; rw [hu] at h; cases h
 | ptr a=> obtain ⟨_,e,h⟩:=ht; rw [hu] at h; cases h
 | rptr a=> obtain ⟨_,e,h⟩:=ht; rw [hu] at h; cases h
 | optr a=> obtain ⟨_,e,h⟩:=ht; rw [hu] at h; cases h
 | nilp=> obtain ⟨_,e,h⟩:=ht; rw [hu] at h; cases h
 | clo f n a=> obtain ⟨_,ps,rs,v,h⟩:=ht; rw [hu] at h; cases h
theorem Ty.pure_at {T:Ty} {l:List Step} (h:T.ok l) (hp:T.pure=true):(T.at l).pure=true:=by
 induction h with
 | nil T=> rw [Ty.at_nil]; exact hp
 | fst _ ih=> simp only [Ty.pure,Ylu] at hp; exact ih hp.1
 | snd _ ih=> simp only [Ty.pure,Ylu] at hp; exact ih hp.2
 | inn _ ih=> exact ih hp
 | idx _ _ ih=> exact ih hp
section
variable {w0:World} {X0:Ent} {a:Act} {w:World} {fz:Nat->Prop} {m:Maps} {s:St} {E:Env}
theorem Rep.getPath {T:Ty} {path:List Step} (hT:T.ok path):∀ {x:T.den} {cs:List Value} {X:List Nat},Rep w fz T x cs X->
  ∃ y X',PV.get (.val T x) path=.val (T.at path) y/\Rep w fz (T.at path) y ((cs.drop (T.off path)).take (T.at path).size) X':=by
 induction hT with
 | nil t=>
  intro x cs X h
  rw [Ty.at_nil,Ty.off_nil]
  refine ⟨x,X,by cases t <;> rfl,?_⟩
  rw [YZu,YWu (by rw [h.length]; omega)]
  exact h
 | @fst a b l hl ih=>
  rintro x cs X ⟨c1,c2,X1,X2,rfl,rfl,h1,h2⟩
  obtain ⟨y,X',g1,g2⟩:=ih h1
  refine ⟨y,X',g1,?_⟩
  have:=Ty.off_le hl
  have hl1:=h1.length
  show Rep w fz (a.at l) y (((c1++c2).drop (a.off l)).take (a.at l).size) X'
  rw [List.drop_append_of_le_length (by omega),List.take_append_of_le_length (by simp; omega)]
  exact g2
 | @snd a b l hl ih=>
  rintro x cs X ⟨c1,c2,X1,X2,rfl,rfl,h1,h2⟩
  obtain ⟨y,X',g1,g2⟩:=ih h2
  refine ⟨y,X',g1,?_⟩
  have hl1:=h1.length
  show Rep w fz (b.at l) y (((c1++c2).drop (a.size+b.off l)).take (b.at l).size) X'
  rw [List.drop_append,YPu (by omega),YIu,hl1,Nat.add_sub_cancel_left]
  exact g2
 | @inn a l hl ih=>
  intro x cs X h
  exact ih (x:=x) h
 | @idx n i a l hi hl ih=>
  intro x cs X h
  obtain ⟨h1,h2⟩:=h
  obtain ⟨X',h3,h4⟩:=RepL.get (fun x cs X h=> Rep.length a h) a.zero i h2 (by omega)
  obtain ⟨y,X'',g1,g2⟩:=ih h3
  refine ⟨y,X'',g1,?_⟩
  have:=Ty.off_le hl
  rw [YR5 _ _ _ _ _ (by omega)] at g2
  exact g2
theorem YG8 {c:Array Value} {off n k l:Nat} (h:k+l<=n):((Yl c off n).drop k).take l=Yl c (off+k) l:=YH8 _ h
theorem Rep.block {o:Bool} {t:Ty} {xs:List t.den} {v:Value} {X:List Nat} (h:Rep w fz (.sl o t) xs [v] X) (hn:0 < xs.length):
  ∃ b off cap c el fr X',v=.slice (some ⟨b,off,none⟩) xs.length cap/\w.heap[b]? =some (.cells c el fr)/\xs.length<=cap/\off+cap*t.size<=c.size/\RepL (Rep w fz t) xs (Yl c off (xs.length*t.size)) X'/\(o=false->fz b/\X'=[])/\(o=true->FrOK fr c.size/\X=b::X'):=by
 rcases h with ⟨_,h,_⟩ | ⟨b,off,cap,c,el,fr,X',h1,h2,h3,h4,h5,h6⟩ | ⟨_,_,_,h,_⟩
 ·subst h; exact absurd hn (by simp)
 rotate_left
 ·subst h; exact absurd hn (by simp)
 ·cases h1
  refine ⟨b,off,cap,c,el,fr,X',rfl,h2,h3,h4,h5,?_,?_⟩
  ·rintro rfl; exact ⟨h6.1,h6.2.1⟩
  ·rintro rfl; exact ⟨h6.1.1,h6.2⟩
theorem Rel.rowAny {Y:List Nat} (h:Rel w0 X0 fz m Y s a w) {r:Nat} {t:Ty} {o:Own} {xs:List t.den} (hr:s.rows r=.mk t o xs) (ho:o≠.dead):∃ b X,Rep w fz (.sl b t) xs [m.ρ r] X:=by
 cases o with
 | live=> exact ⟨true,_,(h.rows r t xs hr).1⟩
 | frz=> exact ⟨false,_,(h.rowsF r t xs hr).2⟩
 | dead=> exact absurd rfl ho
theorem YH7 {t:Ty} {xs:List t.den} {c:Array Value} {off:Nat} {X:List Nat} (h:RepL (Rep w fz t) xs (Yl c off (xs.length*t.size)) X) {i:Nat} (hi:i < xs.length):
  ∃ X',Rep w fz t (xs.getD i t.zero) (Yl c (off+i*t.size) t.size) X'/\∀ b∈X',b∈X:=by
 obtain ⟨X',h1,h2⟩:=RepL.get (fun x cs X h=> Rep.length t h) t.zero i h hi
 refine ⟨X',?_,h2⟩
 have:i*t.size+t.size<=xs.length*t.size:=by rw [<-Nat.succ_mul]; exact YTu _ hi
 rw [YG8 this] at h1
 exact h1
theorem Yor {Y:List Nat} (h:Rel w0 X0 fz m Y s a w) {b:Base} {path:List Step} {x:Addr} {v:PV} (hx:RepP w fz m s (.addr b path) [.pointer (some x)]) (hl:s.load (.addr b path)=some v):
  ∃ k off c el fr,x=⟨k,off,none⟩/\w.heap[k]? =some (.cells c el fr)/\off+v.size<=c.size/\RepP w fz m s v (Yl c off v.size):=by
 cases b with
 | box b=>
  simp only [St.load] at hl
  rcases hx with ⟨T,o,c,hb,hT,hcs⟩ | ⟨l,n,hb,_,_⟩
  ·cases hcs
   have ho:o≠.dead:=by rintro rfl; simp [hb] at hl
   obtain ⟨cs,el,fr,h1,h2,h3,h4,h5,h6⟩:=h.boxes b T o c hb ho
   have hl':v=c.get path:=by cases o <;> simp [hb] at hl <;> first | exact absurd rfl ho | exact hl.symm
   subst hl'
   obtain ⟨g1,g2⟩:=h2.get hT h3
   have hs:=YW g2
   have hle:=Ty.off_le hT
   have hsz:=h2.size
   rw [(YW h3).2,YYu] at hsz
   refine ⟨_,_,cs,el,fr,rfl,h1,by rw [hs.2]; omega,?_⟩
   rw [hs.2,Yl]
   exact g1
  ·simp [hb] at hl
 | row r i=>
  simp only [St.load] at hl
  obtain ⟨t,o,xs,b,off,len,cap,hr,hρ,hi,hT,hcs⟩:=hx
  cases hcs
  have ho:o≠.dead:=by rintro rfl; simp [hr] at hl
  obtain ⟨q,X,hrep⟩:=h.rowAny hr ho
  obtain ⟨b',off',cap',c,el,fr,X',g1,g2,g3,g4,g5,_⟩:=hrep.block (by omega)
  rw [hρ] at g1
  cases g1
  obtain ⟨X2,g6,_⟩:=YH7 g5 hi
  obtain ⟨y,X3,g7,g8⟩:=g6.getPath hT
  have hle:=Ty.off_le hT
  have hin:(i+1)*t.size<=cap*t.size:=YTu _ (by omega)
  rw [Nat.succ_mul] at hin
  have hl':(bif (t.at path).pure then some (PV.val (t.at path) y) else none)=some v:=by
   cases o <;> simp only [hr,g7] at hl <;> first | exact absurd rfl ho | exact hl
  cases hp:(t.at path).pure with
  | false=> rw [hp] at hl'; cases hl'
  | true=>
   rw [hp] at hl'
   cases hl'
   rw [YG8 (by omega)] at g8
   have:=Rep.pure _ hp g8
   subst this
   refine ⟨_,_,c,el,fr,rfl,g2,?_,hp,g8⟩
   show _+(t.at path).size<=_
   omega
 | fbox t y=>
  simp only [St.load] at hl
  cases hl
  obtain ⟨hp,hT,b,off,c,el,fr,h1,h2,h3,h4,hcs⟩:=hx
  cases hcs
  obtain ⟨z,X3,g7,g8⟩:=h4.getPath hT
  have hle:=Ty.off_le hT
  rw [g7]
  rw [YG8 (by omega)] at g8
  have:=Rep.pure _ (Ty.pure_at hT hp) g8
  subst this
  refine ⟨_,_,c,el,fr,rfl,h1,?_,Ty.pure_at hT hp,g8⟩
  show _+(t.at path).size<=_
  omega
theorem RepS.pointer {b:Base} {path:List Step} {v:Value} (h:RepS w fz m s (.addr b path) v):∃ x,v=.pointer (some x)/\RepP w fz m s (.addr b path) [.pointer (some x)]:=h.addr
theorem RepP.toS {p:PV} {cs:List Value} {v:Value} (h:RepP w fz m s p cs) (hv:v=mkV p.isAgg cs):RepS w fz m s p v:=by subst hv; exact RepS.of h
theorem YRg (hE:EnvOK E) {Y:List Nat} (h:Rel w0 X0 fz m Y s a w) {t:TypeId} {u:Ty} {p q:PV} {v:Value} (ht:E.ty t=some u) (hv:RepS w fz m s p v) (hl:s.load p=some q) (hf:fits u q=true):
  ∃ z,(Instr.loadAt t v).run E.P w=.ok z w/\RepS w fz m s q z:=by
 cases p with
 | addr b path=>
  obtain ⟨x,rfl,hx⟩:=hv.pointer
  obtain ⟨k,off,c,el,fr,rfl,g1,g2,g3⟩:=Yor h hx hl
  have hs:=YW hf
  rw [hs.2] at g2 g3
  refine ⟨_,?_,RepS.of g3⟩
  simp only [Instr.loadAt,Instr.sureAddr,pure_bind,YZs (hE.ty t u ht) g1 g2,hs.1]
 | _=> simp [St.load] at hl
end
end Go.Abs
namespace Go.Abs
section
variable {w0:World} {X0:Ent} {a:Act} {w:World} {fz:Nat->Prop} {m:Maps} {s:St} {E:Env}
theorem YUd {b:Base} {path l:List Step} {x:Addr} {T:Ty} (hx:RepP w fz m s (.addr b path) [.pointer (some x)]) (hT:s.tyAt b path=some T) (hl:T.ok l):
  x.spot=none/\RepP w fz m s (.addr b (path++l)) [.pointer (some ⟨x.block,x.off+T.off l,none⟩)]:=by
 cases b with
 | box b=>
  rcases hx with ⟨T',o,c,hb,hp,hcs⟩ | ⟨l',n,hb,_,_⟩
  ·cases hcs
   simp only [St.tyAt,hb,Ytu] at hT
   subst hT
   exact ⟨rfl,.inl ⟨T',o,c,hb,Ty.ok_append hp hl,by rw [Ty.off_append hp]⟩⟩
  ·simp [St.tyAt,hb] at hT
 | row r i=>
  obtain ⟨t,o,xs,b,off,len,cap,hr,hρ,hi,hp,hcs⟩:=hx
  cases hcs
  simp only [St.tyAt,hr,Ytu] at hT
  subst hT
  exact ⟨rfl,t,o,xs,b,off,len,cap,hr,hρ,hi,Ty.ok_append hp hl,by rw [Ty.off_append hp]; simp only [Nat.add_assoc]⟩
 | fbox t y=>
  obtain ⟨h0,hp,b,off,c,el,fr,h1,h2,h3,h4,hcs⟩:=hx
  cases hcs
  simp only [St.tyAt,Ytu] at hT
  subst hT
  exact ⟨rfl,h0,Ty.ok_append hp hl,b,off,c,el,fr,h1,h2,h3,h4,by rw [Ty.off_append hp,Nat.add_assoc]⟩
theorem YTd {x:Addr} (h:x.spot=none) (n:Nat):x.add n=⟨x.block,x.off+n,none⟩:=by
 cases x; cases h; exact Yr3 _ _ _
theorem Ylq (hE:EnvOK E) {t:TypeId} {A T:Ty} {b:Base} {path:List Step} {v:Value} {f:Nat} (ht:E.ty t=some (.st A)) (hT:s.tyAt b path=some T) (hs:Ty.same (.st A) T=true) (hf:f+1<=E.nf t)
  (hv:RepS w fz m s (.addr b path) v):∃ z,(Instr.fieldAt t v f).run E.P w=.ok z w/\RepS w fz m s (.addr b (path++.inn::Y41 (E.nf t) f)) z:=by
 obtain ⟨x,rfl,hx⟩:=hv.pointer
 have hty:=hE.ty t _ ht
 obtain ⟨_,fs,hu,_⟩:=id hty
 have hlt:f < fs.size:=by rw [<-hE.nf t fs hu]; omega
 have hget:fs[f]? =some fs[f]:=Y1v hlt
 obtain ⟨g1,g2,g3,g4⟩:=YA8 hE hty hu hget
 obtain ⟨k1,k2,k3⟩:=Ty.same_path g1 hs
 obtain ⟨j1,j2⟩:=YUd hx hT k1
 refine ⟨_,?_,RepS.of j2⟩
 have hsz:¬(Ty.at (.st A) (.inn::Y41 (E.nf t) f)).size=0:=by omega
 simp only [Instr.fieldAt,Sem.run_bind,Yz hu,Result.andThen_ok,hget,Instr.sureAddr,Sem.run_pure,fieldPlace,g3.sizeOf,Yju hsz]
 rw [YTd j1,g2,k2]
 rfl
theorem YL3 {P:Program} {T:Ty} {t:TypeId} (h:TyOK P T t) {cs:Array Value} {off:Nat} (hn:off+T.size<=cs.size):(part t cs off).run P w=.ok (mkV T.isAgg ((cs.toList.drop off).take T.size)) w:=by
 unfold part
 simp only [Sem.run_bind,h.isAgg,Result.andThen_ok]
 cases ha:T.isAgg with
 | true=>
  simp only [if_true,Sem.run_bind,h.sizeOf,Result.andThen_ok,Sem.run_pure,mkV]
  congr 2
  apply Array.ext'
  rw [Array.toList_extract,List.extract_eq_take_drop]
  simp
 | false=>
  have h1:=h.one ha
  have hlt:off < cs.size:=by omega
  simp only [YSu,if_false,Y1v hlt,Sem.run_pure]
  rw [h1]
  simp [mkV,List.take_one,List.head?_drop,hlt]
theorem Ynq (hE:EnvOK E) {t:TypeId} {A:Ty} {p:PV} {v:Value} {f:Nat} (ht:E.ty t=some (.st A)) (hp:fits (.st A) p=true) (hf:f+1<=E.nf t) (hv:RepS w fz m s p v):
  ∃ z,(Instr.field t v f).run E.P w=.ok z w/\RepS w fz m s (p.get (.inn::Y41 (E.nf t) f)) z:=by
 have hty:=hE.ty t _ ht
 obtain ⟨_,fs,hu,_⟩:=id hty
 have hlt:f < fs.size:=by rw [<-hE.nf t fs hu]; omega
 have hget:fs[f]? =some fs[f]:=Y1v hlt
 obtain ⟨g1,g2,g3,g4⟩:=YA8 hE hty hu hget
 have hsz:=YW hp
 rcases hv.cells with rfl | rfl | ⟨_,_,rfl⟩ | ⟨cs,hcs,rfl⟩
 ·simp [fits] at hp
 ·simp [fits] at hp
 ·simp [fits] at hp
 ·obtain ⟨j1,j2⟩:=hcs.get g1 hp
  have hle:=Ty.off_le g1
  have hl:=hcs.size
  rw [hsz.2] at hl
  refine ⟨_,?_,j1.toS rfl⟩
  rw [hsz.1]
  simp only [Instr.field,Sem.run_bind,Yz hu,Result.andThen_ok,hget,mkV,Ty.isAgg,asAgg,Sem.run_pure]
  rw [YL3 g3 (by rw [g2]; simp; omega),g2,(YW j2).1]
  rfl
theorem YSg {Y:List Nat} (h:Rel w0 X0 fz m Y s a w) {b:Base} {path:List Step} {x:Addr} {u:Ty} {y:u.den} (hx:RepP w fz m s (.addr b path) [.pointer (some x)]) (hl:s.load (.addr b path)=some (.val u y)):
  ∃ T,s.tyAt b path=some T/\T.same u=true:=by
 cases b with
 | box b=>
  simp only [St.load] at hl
  rcases hx with ⟨T,o,c,hb,hT,hcs⟩ | ⟨l,n,hb,_,_⟩
  ·have ho:o≠.dead:=by rintro rfl; simp [hb] at hl
   obtain ⟨cs,el,fr,h1,h2,h3,h4,h5,h6⟩:=h.boxes b T o c hb ho
   have hl':c.get path=.val u y:=by cases o <;> simp [hb] at hl <;> first | exact absurd rfl ho | exact hl
   obtain ⟨g1,g2⟩:=h2.get hT h3
   rw [hl',YU] at g2
   exact ⟨_,by simp only [St.tyAt,hb],g2⟩
  ·simp [hb] at hl
 | row r i=>
  simp only [St.load] at hl
  obtain ⟨t,o,xs,b,off,len,cap,hr,hρ,hi,hT,hcs⟩:=hx
  have ho:o≠.dead:=by rintro rfl; simp [hr] at hl
  obtain ⟨q,X,hrep⟩:=h.rowAny hr ho
  obtain ⟨b',off',cap',c,el,fr,X',g1,g2,g3,g4,g5,_⟩:=hrep.block (by omega)
  obtain ⟨X2,g6,_⟩:=YH7 g5 hi
  obtain ⟨z,X3,g7,g8⟩:=g6.getPath hT
  have hl':(bif (t.at path).pure then some (PV.val (t.at path) z) else none)=some (.val u y):=by
   cases o <;> simp only [hr,g7] at hl <;> first | exact absurd rfl ho | exact hl
  cases hp:(t.at path).pure with
  | false=> rw [hp] at hl'; cases hl'
  | true=>
   rw [hp] at hl'
   cases hl'
   exact ⟨_,by simp only [St.tyAt,hr],Ty.same_refl _⟩
 | fbox t z=>
  simp only [St.load] at hl
  obtain ⟨hp,hT,b,off,c,el,fr,h1,h2,h3,h4,hcs⟩:=hx
  obtain ⟨q,X3,g7,g8⟩:=h4.getPath hT
  rw [g7] at hl
  cases hl
  exact ⟨_,rfl,Ty.same_refl _⟩
theorem Y95 {i:Int} {n:Nat}:Ya i n=true↔0<=i/\i < n:=by simp [Ya]
theorem YZq {p:PV} {n:Int} (h:YE3 p=some n):∃ k,p=.val (.int k) n:=by
 unfold YE3 at h
 split at h
 ·cases h; exact ⟨_,rfl⟩
 ·cases h
theorem RepS.asInt {p:PV} {n:Int} {v:Value} (h:YE3 p=some n) (hv:RepS w fz m s p v):∃ k,v=.int k n:=by
 obtain ⟨k,rfl⟩:=YZq h
 exact ⟨k,hv.int⟩
theorem YUq (hE:EnvOK E) {Y:List Nat} (h:Rel w0 X0 fz m Y s a w) {t:TypeId} {u:Ty} {p q:PV} {v:Value} {k:IntKind} {i:Int} (ht:E.ty t=some u) (hv:RepS w fz m s p v)
  (hs:Yh2 s u p i=some (true,q)):∃ z,(Instr.indexAt t v (.int k i)).run E.P w=.ok z w/\RepS w fz m s q z:=by
 have hty:=hE.ty t u ht
 unfold Yh2 at hs
 split at hs
 ·-- a slice
  rename_i o e
  obtain ⟨_,el,hu,hel⟩:=hty
  have hsize:∀ w,(sizeOf el).run E.P w=.ok e.size w:=fun w=> TyOK.sizeOf (T:=e) hel w
  have fin:∀ {b off len cap:Nat} {B:Base},v=.slice (some ⟨b,off,none⟩) len cap->0<=i->i < len->RepP w fz m s (.addr B []) [.pointer (some ⟨b,off+i.toNat*e.size,none⟩)]->∃ z,(Instr.indexAt t v (.int k i)).run E.P w=.ok z w/\RepS w fz m s (.addr B []) z:=by
   rintro b off len cap B rfl h1 h2 h3
   refine ⟨_,?_,RepS.of h3⟩
   simp only [Instr.indexAt,asIntOf,Sem.run_bind,Sem.run_pure,Result.andThen_ok,Yz hu,Bool.and_false,h1,h2,and_self,if_true,hsize,Yr3]
   rfl
  split at hs
  ·rename_i own t' x
   obtain ⟨cs,hp,hx,rfl⟩:=hv.reads
   cases hsz:Nat.beq e.size t'.size with
   | false=> rw [hsz] at hs; cases hs
   | true=>
    rw [hsz] at hs
    simp only [Ygu,Ytu,YJu] at hs
    obtain ⟨hin,rfl⟩:=hs
    have hsz:=YOu hsz
    obtain ⟨h1,h2⟩:=Y95.1 hin
    have hown:own=false:=by simp only [Ty.pure,Ylu,YXu] at hp; exact hp.1
    have hpt:t'.pure=true:=by simp only [Ty.pure,Ylu] at hp; exact hp.2
    subst hown
    obtain ⟨v',rfl⟩:∃ v',cs=[v']:=List.length_eq_one_iff.1 (by rw [hx.length]; rfl)
    obtain ⟨b,off,cap,c,el,fr,X',g1,g2,g3,g4,g5,g6,_⟩:=hx.block (by omega)
    obtain ⟨g9,rfl⟩:=g6 rfl
    obtain ⟨X2,g7,g8⟩:=YH7 g5 (i:=i.toNat) (by omega)
    have:X2=[]:=Rep.pure _ hpt g7
    subst this
    have hin:(i.toNat+1)*t'.size<=cap*t'.size:=YTu _ (by omega)
    rw [Nat.succ_mul] at hin
    refine fin (b:=b) (off:=off) (len:=List.length x) (cap:=cap) (by simp [mkV,Ty.isAgg,g1]) h1 h2 ⟨hpt,.nil _,b,off+i.toNat*t'.size,c,el,fr,g2,g9,by omega,g7,?_⟩
    rw [hsz,Ty.off_nil]; rfl
  ·rename_i r
   have hv':v=m.ρ r:=by obtain ⟨cs,⟨rfl,_⟩,rfl⟩:=hv; rfl
   have key:∀ t' o' xs,s.rows r=.mk t' o' xs->o'≠.dead->(bif Nat.beq e.size t'.size then some (Ya i xs.length,PV.addr (.row r i.toNat) []) else none)=some (true,q)->∃ z,(Instr.indexAt t v (.int k i)).run E.P w=.ok z w/\RepS w fz m s q z:=by
    intro t' o' xs hr ho hs
    cases hsz:Nat.beq e.size t'.size with
    | false=> rw [hsz] at hs; cases hs
    | true=>
     rw [hsz] at hs
     simp only [Ygu,Ytu,YJu] at hs
     obtain ⟨hin,rfl⟩:=hs
     have hsz:=YOu hsz
     obtain ⟨h1,h2⟩:=Y95.1 hin
     obtain ⟨qq,X,hrep⟩:=h.rowAny hr ho
     obtain ⟨b,off,cap,c,el,fr,X',g1,g2,g3,g4,g5,_,_⟩:=hrep.block (by omega)
     refine fin (hv'.trans g1) h1 h2 ⟨t',o',xs,b,off,xs.length,cap,hr,g1,by omega,.nil _,?_⟩
     rw [hsz,Ty.off_nil]; rfl
   cases hr:s.rows r with
   | none=> rw [hr] at hs; cases hs
   | mk t' o' xs=>
    rw [hr] at hs
    cases o' with
    | dead=> cases hs
    | live=> exact key t' .live xs hr (by simp) hs
    | frz=> exact key t' .frz xs hr (by simp) hs
  ·rename_i r lo hi
   obtain ⟨cs,⟨t1,o1,xs1,hr1,hlo,hhi,hpart⟩,rfl⟩:=hv
   have key:o1≠.dead->(bif Nat.beq e.size t1.size then some (Ya i (hi - lo),PV.addr (.row r (lo+i.toNat)) []) else none)=some (true,q)->∃ z,(Instr.indexAt t (mkV (PV.part r lo hi).isAgg cs) (.int k i)).run E.P w=.ok z w/\RepS w fz m s q z:=by
    intro ho hs
    cases hsz:Nat.beq e.size t1.size with
    | false=> rw [hsz] at hs; cases hs
    | true=>
     rw [hsz] at hs
     simp only [Ygu,Ytu,YJu] at hs
     obtain ⟨hin,rfl⟩:=hs
     have hsz:=YOu hsz
     obtain ⟨h1,h2⟩:=Y95.1 hin
     obtain ⟨qq,X,hrep⟩:=h.rowAny hr1 ho
     obtain ⟨b,off,cap,c,el,fr,X',g1,g2,g3,g4,g5,_,_⟩:=hrep.block (by omega)
     rcases hpart with ⟨_,_,_,h0⟩ | ⟨_,_,_,_,h0⟩ | ⟨b2,off2,len2,cap2,off3,cap3,e1,rfl,e3,e4,e5⟩
     ·omega
     ·omega
     ·rw [g1] at e1
      cases e1
      refine fin (b:=b) (off:=off3) (len:=hi - lo) (cap:=cap3) rfl h1 h2 ⟨t1,o1,xs1,b,off,xs1.length,cap,hr1,g1,by omega,.nil _,?_⟩
      rw [hsz,Ty.off_nil,e3 (by omega),Nat.add_zero,Nat.add_mul,Nat.add_assoc]
   rw [hr1] at hs
   cases o1 with
   | dead=> cases hs
   | live=> exact key (by simp) hs
   | frz=> exact key (by simp) hs
  ·cases hs
 ·-- an array
  rename_i n e
  obtain ⟨_,el,hu,hel⟩:=hty
  have hsize:∀ w,(sizeOf el).run E.P w=.ok e.size w:=fun w=> TyOK.sizeOf (T:=e) hel w
  split at hs
  ·rename_i b path
   split at hs
   ·rename_i mm t' y hl
    obtain ⟨x,rfl,hx⟩:=hv.pointer
    obtain ⟨T,hT,hsame⟩:=YSg h hx hl
    cases hc:(Nat.beq n mm&&Nat.beq e.size t'.size) with
    | false=> rw [hc] at hs; cases hs
    | true=>
     rw [hc] at hs
     simp only [Ygu,Ytu,YJu] at hs
     obtain ⟨hin,rfl⟩:=hs
     obtain ⟨h1,h2⟩:=Y95.1 hin
     simp only [Ylu] at hc
     have hn:=YOu hc.1
     have hsz:=YOu hc.2
     subst hn
     cases T <;> simp only [Ty.same,Ylu,YSu,Ty.same.isPtr] at hsame
     rename_i n' t2
     have hn:=YOu hsame.1
     subst hn
     have hz:=(Ty.same_size hsame.2).1
     obtain ⟨j1,j2⟩:=YUd hx hT (l:=[.idx i.toNat]) (.idx (by omega) (.nil _))
     refine ⟨_,?_,RepS.of j2⟩
     simp only [Instr.indexAt,asIntOf,Sem.run_bind,Sem.run_pure,Result.andThen_ok,Yz hu,Instr.sureAddr,h1,h2,and_self,if_true,hsize]
     rw [YTd j1]
     simp only [Ty.off,Ty.off_nil,Nat.add_zero,hz,hsz]
     rfl
   ·cases hs
  ·cases hs
 ·cases hs
end
end Go.Abs
namespace Go.Abs
section
variable {P:Program} {w:World} {fz:Nat->Prop}
theorem YHp {T:Ty} {t:TypeId} (h:TyOK P T t):P.cellsOf t=T.size:=by
 obtain ⟨i,h1,h2,_⟩:=h.info
 simp [Program.cellsOf,h1,h2]
def EqV (P:Program) (w:World) (fz:Nat->Prop) (T:Ty):Prop:=
 ∀ (d m:Nat) (t:TypeId) (x y:T.den) (cs cs':List Value),TyOK P T t->P.keyTypeAt m t=true->Rep w fz T x cs []->Rep w fz T y cs' []->(Op.equalIn (d+m) t (mkV T.isAgg cs) (mkV T.isAgg cs')).run P w=.ok (T.beq x y) w
def EqF (P:Program) (w:World) (fz:Nat->Prop) (T:Ty):Prop:=
 ∀ (d m : Nat) (fs : List Field) (off : Nat) (x y : T.den) (xs ys : Array Value) (cs cs' : List Value), (Y21 P T).2 fs off → (∀ f ∈ fs, f.name ≠ "_" ∧ P.keyTypeAt m f.type = true) → Rep w fz T x cs [] → Rep w fz T y cs' [] →
  off+T.size<=xs.size->off+T.size<=ys.size->(xs.toList.drop off).take T.size=cs->(ys.toList.drop off).take T.size=cs'->(Op.eqFields (d+m) xs ys fs).run P w=.ok (T.beq x y) w
theorem YW5 {T:Ty} (ht:(Y21 P T).2=Yp1 T (Y21 P T).1) (h:EqV P w fz T):EqF P w fz T:=by
 intro d m fs off x y xs ys cs cs' hf hk hx hy h1 h2 h3 h4
 rw [ht] at hf
 obtain ⟨f,rfl,rfl,hp,hok⟩:=hf
 obtain ⟨hn,hkt⟩:=hk f (by simp)
 have hok:TyOK P T f.type:=hok
 have p1:=YL3 (w:=w) hok h1
 have p2:=YL3 (w:=w) hok h2
 rw [h3] at p1
 rw [h4] at p2
 simp only [Op.eqFields,ne_eq,hn,not_false_eq_true,if_true,Sem.run_bind,p1,p2,Result.andThen_ok,h d m f.type x y cs cs' hok hkt hx hy]
 cases T.beq x y <;> simp
theorem Y56 {m:Nat} {t:TypeId} (h:P.keyTypeAt m t=true):∃ m',m=m'+1:=by
 cases m with
 | zero=> cases h
 | succ m=> exact ⟨m,rfl⟩
theorem YZf {A:Ty} (hA:EqV P w fz A) (hp:A.pure=true) {d m:Nat} {e:TypeId} (he:TyOK P A e) (hk:P.keyTypeAt m e=true) {xs ys:Array Value}:∀ (k i:Nat) (x y:List A.den) (cs cs':List Value),
  x.length=k->y.length=k->RepL (Rep w fz A) x cs []->RepL (Rep w fz A) y cs' []->(i+k)*A.size<=xs.size->(i+k)*A.size<=ys.size->(xs.toList.drop (i*A.size)).take (k*A.size)=cs->(ys.toList.drop (i*A.size)).take (k*A.size)=cs'->
  (Op.eqItems (d+m) e A.size xs ys (List.range' i k)).run P w=.ok (Ty.beq.lbeq A.beq x y) w
 | 0,i,x,y,cs,cs',hx,hy,_,_,_,_,_,_=> by
  have:=YRu hx; subst this
  have:=YRu hy; subst this
  simp [Op.eqItems,Ty.beq.lbeq]
 | k+1,i,[],y,cs,cs',hx,_,_,_,_,_,_,_=> by cases hx
 | k+1,i,x::xl,[],cs,cs',_,hy,_,_,_,_,_,_=> by cases hy
 | k+1,i,x::xl,y::yl,cs,cs',hx,hy,rx,ry,s1,s2,c1,c2=> by
  obtain ⟨d1,d2,X1,X2,e1,e2,r1,r2⟩:=rx
  obtain ⟨d1',d2',X1',X2',e1',e2',r1',r2'⟩:=ry
  obtain ⟨rfl,rfl⟩:=List.append_eq_nil_iff.1 e2.symm
  obtain ⟨rfl,rfl⟩:=List.append_eq_nil_iff.1 e2'.symm
  have l1:=Rep.length A r1
  have l1':=Rep.length A r1'
  have hmul:(i+(k+1))*A.size=i*A.size+A.size+k*A.size:=by rw [Nat.add_mul,Nat.succ_mul]; omega
  have hmul2:(i+1+k)*A.size=i*A.size+A.size+k*A.size:=by rw [Nat.add_mul,Nat.succ_mul]
  have hmul3:(k+1)*A.size=A.size+k*A.size:=by rw [Nat.succ_mul]; omega
  have hmul4:(i+1)*A.size=i*A.size+A.size:=by rw [Nat.succ_mul]
  have cut:∀ {l:List Value} {a b:List Value},(l.drop (i*A.size)).take ((k+1)*A.size)=a++b->a.length=A.size->(l.drop (i*A.size)).take A.size=a/\(l.drop ((i+1)*A.size)).take (k*A.size)=b:=by
   intro l a b h hl
   rw [hmul3] at h
   constructor
   ·have:=congrArg (List.take A.size) h
    rw [List.take_take,Nat.min_eq_left (by omega)] at this
    rw [this,<-hl,List.take_left]
   ·have:=congrArg (List.drop A.size) h
    rw [List.drop_take,List.drop_drop,Nat.add_sub_cancel_left] at this
    rw [hmul4,this,<-hl,List.drop_left]
  rw [e1] at c1
  rw [e1'] at c2
  obtain ⟨q1,q2⟩:=cut c1 l1
  obtain ⟨q1',q2'⟩:=cut c2 l1'
  have p1:=YL3 (w:=w) he (cs:=xs) (off:=i*A.size) (by omega)
  have p2:=YL3 (w:=w) he (cs:=ys) (off:=i*A.size) (by omega)
  rw [q1] at p1
  rw [q1'] at p2
  have ih:=YZf hA hp (d:=d) he hk (xs:=xs) (ys:=ys) k (i+1) xl yl d2 d2' (by simpa using hx) (by simpa using hy) r2 r2' (by omega) (by omega) q2 q2'
  rw [List.range'_succ]
  simp only [Op.eqItems,Sem.run_bind,p1,p2,Result.andThen_ok,hA d m e x y d1 d1' he hk r1 r1',Ty.beq.lbeq]
  cases A.beq x y
  ·simp
  ·simpa using ih
theorem Yiq (T:Ty):T.eqOk=true->EqV P w fz T/\EqF P w fz T:=by
 induction T with
 | int k=>
  intro _
  have h:EqV P w fz (.int k):=by
   rintro d m t x y cs cs' ht hk ⟨rfl,_⟩ ⟨rfl,_⟩
   obtain ⟨m,rfl⟩:=Y56 hk
   exact run_equalIn_int w (d+m) t k k x y ht.2
  exact ⟨h,YW5 rfl h⟩
 | bool=>
  intro _
  have h:EqV P w fz .bool:=by
   rintro d m t x y cs cs' ht hk ⟨rfl,_⟩ ⟨rfl,_⟩
   obtain ⟨m,rfl⟩:=Y56 hk
   exact run_equalIn_bool w (d+m) t x y ht.2
  exact ⟨h,YW5 rfl h⟩
 | str=>
  intro _
  have h:EqV P w fz .str:=by
   rintro d m t x y cs cs' ht hk ⟨rfl,_⟩ ⟨rfl,_⟩
   obtain ⟨m,rfl⟩:=Y56 hk
   refine (run_equalIn_string w (d+m) t ⟨x.toArray⟩ ⟨y.toArray⟩ ht.2).trans ?_
   congr 1
   show ((⟨List.toArray x⟩:ByteArray).toList==(⟨List.toArray y⟩:ByteArray).toList)=Ty.beq .str x y
   rw [Yg9,Yg9]; rfl
  exact ⟨h,YW5 rfl h⟩
 | unit=>
  intro _
  refine ⟨fun d m t x y cs cs' ht=> ht.elim,fun d m fs off x y xs ys cs cs' hf _ _ _ _ _ _ _=> ?_⟩
  have:fs=[]:=hf
  subst this
  simp [Op.eqFields,Ty.beq]
 | pair a b iha ihb=>
  intro he
  simp only [Ty.eqOk,Ylu] at he
  obtain ⟨ha,_⟩:=iha he.1
  obtain ⟨_,hb⟩:=ihb he.2
  refine ⟨fun d m t x y cs cs' ht=> ht.elim,fun d m fs off x y xs ys cs cs' hf hk hx hy h1 h2 h3 h4=> ?_⟩
  obtain ⟨f,g,l,rfl,rfl,hp,hok,hrest⟩:=hf
  obtain ⟨d1,d2,X1,X2,e1,e2,r1,r2⟩:=hx
  obtain ⟨d1',d2',X1',X2',e1',e2',r1',r2'⟩:=hy
  obtain ⟨rfl,rfl⟩:=List.append_eq_nil_iff.1 e2.symm
  obtain ⟨rfl,rfl⟩:=List.append_eq_nil_iff.1 e2'.symm
  have l1:=Rep.length a r1
  have l1':=Rep.length a r1'
  have cut:∀ {l:List Value} {p q:List Value},(l.drop f.offset).take (a.size+b.size)=p++q->p.length=a.size->(l.drop f.offset).take a.size=p/\(l.drop (f.offset+a.size)).take b.size=q:=by
   intro l p q h hl
   constructor
   ·have:=congrArg (List.take a.size) h
    rw [List.take_take,Nat.min_eq_left (by omega)] at this
    rw [this,<-hl,List.take_left]
   ·have:=congrArg (List.drop a.size) h
    rw [List.drop_take,List.drop_drop,Nat.add_sub_cancel_left] at this
    rw [this,<-hl,List.drop_left]
  simp only [Ty.size] at h1 h2 h3 h4
  rw [e1] at h3
  rw [e1'] at h4
  obtain ⟨q1,q2⟩:=cut h3 l1
  obtain ⟨q1',q2'⟩:=cut h4 l1'
  obtain ⟨hn,hkt⟩:=hk f (by simp)
  have p1:=YL3 (w:=w) (h:=(hok:TyOK P a f.type)) (cs:=xs) (off:=f.offset) (by omega)
  have p2:=YL3 (w:=w) (h:=(hok:TyOK P a f.type)) (cs:=ys) (off:=f.offset) (by omega)
  rw [q1] at p1
  rw [q1'] at p2
  have ih:=hb d m (g::l) (f.offset+a.size) x.2 y.2 xs ys d2 d2' hrest (fun h hh=> hk h (by simp [Yuu.1 hh])) r2 r2' (by omega) (by omega) q2 q2'
  rw [Op.eqFields]
  simp only [ne_eq,hn,not_false_eq_true,if_true,Sem.run_bind,p1,p2,Result.andThen_ok,ha d m f.type x.1 y.1 d1 d1' hok hkt r1 r1']
  show _=Result.ok (a.beq x.1 y.1&&b.beq x.2 y.2) w
  cases a.beq x.1 y.1
  ·simp
  ·simpa using ih
 | st a ih=>
  intro he
  obtain ⟨_,hF⟩:=ih he
  have h:EqV P w fz (.st a):=by
   intro d m t x y cs cs' ht hk hx hy
   obtain ⟨m,rfl⟩:=Y56 hk
   obtain ⟨hi,fs,hu,hfs⟩:=ht
   simp only [Program.keyTypeAt,hu,Ylu,YXu] at hk
   have hfo:P.fieldsOf t=fs:=by simp [Program.fieldsOf,hu]
   have l1:cs.length=a.size:=Rep.length a hx
   have l2:cs'.length=a.size:=Rep.length a hy
   have:=run_equalIn_struct (P:=P) w (d+m) t cs.toArray cs'.toArray (by rw [hfo]; exact hu) hk.2
   refine this.trans ?_
   rw [hfo]
   refine hF d m fs.toList 0 x y _ _ cs cs' hfs (fun f hf=> ?_) hx hy (by simp [l1]) (by simp [l2]) (by simp [<-l1]) (by simp [<-l2])
   have:=Array.all_eq_true_iff_forall_mem.1 hk.1.1 f (Array.mem_toList_iff.1 hf)
   simp only [Ylu,bne_iff_ne,ne_eq] at this
   exact this
  exact ⟨h,YW5 rfl h⟩
 | arr n a ih=>
  intro he
  obtain ⟨hV,_⟩:=ih he
  have hp:a.pure=true:=by
   have:∀ t:Ty,t.eqOk=true->t.pure=true:=by
    intro t
    induction t with
    | pair a b iha ihb=> intro h; simp only [Ty.eqOk,Ylu] at h; simp [Ty.pure,iha h.1,ihb h.2]
    | st a ih=> intro h; exact ih h
    | arr n a ih=> intro h; exact ih h
    | _=> intro h; first | rfl | cases h
   exact this a he
  have h:EqV P w fz (.arr n a):=by
   intro d m t x y cs cs' ht hk hx hy
   obtain ⟨m,rfl⟩:=Y56 hk
   obtain ⟨hi,e,hu,hok⟩:=ht
   have hok:TyOK P a e:=hok
   simp only [Program.keyTypeAt,hu] at hk
   obtain ⟨i,hi1,_⟩:=hok.info
   have:=run_equalIn_array (P:=P) w (d+m) cs.toArray cs'.toArray hu hi1
   refine this.trans ?_
   rw [YHp hok,List.range_eq_range']
   have l1:cs.length=n*a.size:=Rep.length (.arr n a) hx
   have l2:cs'.length=n*a.size:=Rep.length (.arr n a) hy
   exact YZf hV hp hok hk n 0 x y cs cs' hx.1 hy.1 hx.2 hy.2 (by simp [l1]) (by simp [l2]) (by simp [<-l1]) (by simp [<-l2])
  exact ⟨h,YW5 rfl h⟩
 | _=> intro he; cases he
end
theorem EqAll.of {E:Env} (hE:EnvOK E):EqAll E:=by
 intro t T hT hq he ha w fz x y cs cs' hx hy
 obtain ⟨hk,hg⟩:=hE.eqs t hq
 refine ⟨fun op a b=> run_eqGuard_agg w op t a b cs.toArray cs'.toArray hg,?_⟩
 have:=(Yiq (P:=E.P) (w:=w) (fz:=fz) T he).1 9980 20 t x y cs cs' (hE.ty t T hT) hk hx hy
 rw [ha] at this
 exact this
end Go.Abs
namespace Go.Abs
theorem Ys5 {w:World} {b k:Nat} {o:Obj} (h:k≠b):(World.setBlock w b o).heap[k]? =w.heap[k]? :=by
 rw [YB4,Yju h]
theorem Yft (s:St) (b:Nat) (e f:BoxE):(s.setBox b e).setBox b f=s.setBox b f:=by
 unfold St.setBox
 congr 1
 funext n
 show (bif Nat.beq n b then f else bif Nat.beq n b then e else s.boxes n)=bif Nat.beq n b then f else s.boxes n
 cases Nat.beq n b <;> rfl
theorem Yht (s:St) (r:Nat) (e f:RowE):(s.setRow r e).setRow r f=s.setRow r f:=by
 unfold St.setRow
 congr 1
 funext n
 show (bif Nat.beq n r then f else bif Nat.beq n r then e else s.rows n)=bif Nat.beq n r then f else s.rows n
 cases Nat.beq n r <;> rfl
theorem Yy8 (s:St) (b:Nat) (e:BoxE):(s.setBox b e).boxes b=e:=by rw [YY,Yku rfl]
theorem Yz8 (s:St) (r:Nat) (e:RowE):(s.setRow r e).rows r=e:=by rw [Ys1,Yku rfl]
theorem YQ3 (c:Array Value) (off:Nat) (vs:List Value):(YH c off vs).toList=c.toList.take off++vs++c.toList.drop (off+vs.length):=rfl
theorem YHf (cs vs:List Value) (k n po vn:Nat) (h:po+vn<=n):
  cs.take (k+po)++vs++cs.drop (k+po+vn)=cs.take k++(((cs.drop k).take n).take po++vs++((cs.drop k).take n).drop (po+vn))++cs.drop (k+n):=by
 rw [List.take_take,Nat.min_eq_left (by omega:po<=n),List.drop_take,List.drop_drop]
 rw [List.take_add,Ypu,Ypu,Ypu,Ypu,Ypu]
 congr 1
 congr 1
 congr 1
 have e4:cs.drop (k+n)=(cs.drop (k+(po+vn))).drop (n - (po+vn)):=by
  rw [List.drop_drop]; congr 1; omega
 rw [e4,Ybv,Nat.add_assoc]
theorem Y0c {c:Array Value} {off k M:Nat} {vs:List Value} (h:k+vs.length<=M) (hM:off+M<=c.size):
  Yl (YH c (off+k) vs) off M=(Yl c off M).take k++vs++(Yl c off M).drop (k+vs.length):=by
 unfold Yl
 rw [YQ3]
 have hl:c.toList.length=c.size:=YYu
 rw [Ypu,List.drop_append,List.drop_take,Yyu,Nat.min_eq_left (by omega:off+k<=c.toList.length),List.take_append]
 rw [show off - (off+k)=0 by omega,YZu,show off+k - off=k by omega,Yyu,Yzu,Nat.min_eq_left (by omega:k<=c.toList.length - off)]
 rw [List.take_take,Nat.min_eq_right (by omega:k<=M),List.take_take,Nat.min_eq_left (by omega:k<=M),Ypu]
 congr 1
 rw [List.take_append,YWu (by omega:vs.length<=M - k),List.drop_take,List.drop_drop]
 congr 1
 rw [show off+k+vs.length=off+(k+vs.length) by omega]
 congr 1
 omega
section
variable {w0:World} {X0:Ent} {a:Act} {w:World} {fz:Nat->Prop} {m:Maps} {s:St} {E:Env}
theorem Rel.putUndefO {Y:List Nat} (h:Rel w0 X0 fz m Y s a w) (d:Option Nat) (v:Value):Rel w0 X0 fz m Y (s.putO d .undef) (a.put d v) w:=by
 cases d with
 | none=> exact h
 | some d=> exact h.putUndef d v
theorem Rel.skipO {Y:List Nat} (h:Rel w0 X0 fz m Y s a w) {d:Option Nat} (hd:∀ k,d=some k->k < a.tmps.size):Rel w0 X0 fz m Y (s.putO d .tnil) (a.put d Go.undef) w:=
 h.putO hd (show Go.undef=Value.tuple #[] from rfl)
theorem Rel.writeBox (h:Rel w0 X0 fz m [] s a w) {b:Nat} {T:Ty} {c c':PV} {cs cs':Array Value} {el:TypeId} {fr:Nat×Nat} (hb:s.boxes b=.cells T .live c) (hw:w.heap[m.γ b]? =some (.cells cs el fr))
  (hc:RepP w fz m s c' cs'.toList) (hT:fits T c'=true) (hF:FrOK fr cs'.size):
  ∃ m',Rel w0 X0 fz m' [] (s.setBox b (.cells T .live c')) a (World.setBlock w (m.γ b) (.cells cs' el fr))/\MapsLe s m m':=by
 obtain ⟨h1,hs1⟩:=h.takeBox hb
 have hk:=Yx8 w (m.γ b) (.cells cs' el fr) [m.γ b] (by simp)
 have h2:=h1.step hk
 have hnf:¬fz (m.γ b):=fun hf=> (h1.fz_hand hf) (by simp)
 have hf:∀ k,fz k->(World.setBlock w (m.γ b) (.cells cs' el fr)).heap[k]? =w.heap[k]? :=fun k hk'=> by
  exact Ys5 (fun e=> by subst e; exact hnf hk')
 have hc':=RepP.le hs1 (m:=m) (m':={ m with ω:=upd m.ω (m.γ b) (some .hand) }) ⟨fun _ _=> rfl,fun _ _=> rfl⟩ hf (fun _ h=> h) hc
 have h3:=(h2.backBox (b:=b) (Yy8 _ _ _) (by show (World.setBlock w (m.γ b) _).heap[m.γ b]? =_; rw [YB4,Yku rfl,Yku (Y73 hw)]) hc' hT hF).1
 rw [Yft] at h3
 exact ⟨_,h3,⟨fun _ _=> rfl,fun _ _=> rfl⟩⟩
theorem Rel.writeRow (h:Rel w0 X0 fz m [] s a w) {r:Nat} {t:Ty} {xs ys:List t.den} (ht:t.pure=true) (hr:s.rows r=.mk t .live xs) {b off len cap:Nat} {c c':Array Value} {el:TypeId} {fr:Nat×Nat}
  (hρ:m.ρ r=.slice (some ⟨b,off,none⟩) len cap) (hw:w.heap[b]? =some (.cells c el fr)) (hsz:c'.size=c.size) (hl:ys.length=xs.length) (hys:RepL (Rep w fz t) ys (Yl c' off (ys.length*t.size)) []):
  ∃ m',Rel w0 X0 fz m' [] (s.setRow r (.mk t .live ys)) a (World.setBlock w b (.cells c' el fr))/\MapsLe s m m':=by
 obtain ⟨g1,g2,g3⟩:=h.rows r t xs hr
 obtain ⟨h1,hs1⟩:=h.takeRow hr
 rcases g1 with ⟨e,_,_⟩ | ⟨b',off',cap',c1,el1,fr1,X',k1,k2,k3,k4,k5,k6,k7⟩ | ⟨e,_⟩
 ·rw [hρ] at e; cases e
 rotate_left
 ·cases e
 ·rw [hρ] at k1
  cases k1
  rw [hw] at k2
  cases k2
  have hX':X'=[]:=RepL.pure (fun x cs X h=> Rep.pure t ht h) k5
  subst hX'
  rw [k7] at h1 g3
  have hk:=Yx8 w b (.cells c' el fr) [b] (by simp)
  have h2:=h1.step hk
  have hnf:¬fz b:=fun hf=> (h1.fz_hand hf) (by simp)
  have hf:∀ k,fz k->(World.setBlock w b (.cells c' el fr)).heap[k]? =w.heap[k]? :=fun k hk'=> by
   exact Ys5 (fun e=> by subst e; exact hnf hk')
  have hrep:Rep (World.setBlock w b (.cells c' el fr)) fz (.sl true t) ys [m.ρ r] [b]:=by
   right
   left
   refine ⟨b,off,cap,c',el,fr,[],by rw [hρ,hl],by rw [YB4,Yku rfl,Yku (Y73 hw)],by omega,by rw [hsz]; exact k4,?_,by rw [hsz]; exact k6,rfl⟩
   refine RepL.mono (fun x cs X h _=> ?_) hys
   have:=Rep.pure t ht h
   subst this
   exact Rep.frame hf (fun _ h=> h) t (fun _ h=> by cases h) h
  have h3:=(h2.backRow (X:=[b]) (Y:=[]) (r:=r) (Yz8 _ _ _) hl hrep).1
  rw [Yht] at h3
  exact ⟨_,h3,⟨fun _ _=> rfl,fun _ _=> rfl⟩⟩
theorem YCt (hE:EnvOK E) (h:Rel w0 X0 fz m [] s a w) {t:TypeId} {u:Ty} {p q:PV} {v x:Value} {s':St} (ht:E.ty t=some u) (hv:RepS w fz m s p v) (hx:RepS w fz m s q x) (hf:fits u q=true) (hs:YR3 s p q=some s'):
  ∃ w' fz' m',(Instr.storeAt t v x).run E.P w=.ok () w'/\Rel w0 X0 fz' m' [] s' a w':=by
 have hty:=hE.ty t u ht
 have hqs:=YW hf
 obtain ⟨vs,hq,rfl⟩:∃ vs,RepP w fz m s q vs/\x=mkV q.isAgg vs:=by
  rcases hx.cells with rfl | rfl | ⟨_,_,rfl⟩ | hx
  ·simp [fits] at hf
  ·simp [fits] at hf
  ·simp [fits] at hf
  ·exact hx
 have hvl:=hq.size
 have hvc:=hq.cells
 unfold YR3 at hs
 split at hs
 ·-- into a box
  rename_i b path
  obtain ⟨y,rfl,hy⟩:=hv.pointer
  split at hs
  ·rename_i T c hb
   cases hfit:fits (T.at path) q with
   | false=> rw [hfit] at hs; cases hs
   | true=>
    rw [hfit,Ygu] at hs
    split at hs
    ·rename_i c' hset
     cases hs
     rcases hy with ⟨T',o',c0,hb',hT,hcs⟩ | ⟨l,n,hb',_,_⟩
     ·rw [hb] at hb'
      cases hb'
      cases hcs
      obtain ⟨cs,el,fr,h1,h2,h3,h4,h5,_⟩:=h.boxes b T .live c hb (by simp)
      obtain ⟨g1,g2⟩:=h2.set hT h3 hq hfit hset
      have hs2:=YW hfit
      have hle:=Ty.off_le hT
      have hsz:=h2.size
      rw [(YW h3).2,YYu] at hsz
      have hn:vs.length=u.size:=by rw [hvl,hqs.2]
      have he:(T.at path).size=vs.length:=by rw [hvl,hs2.2]
      rw [he,<-YQ3] at g1
      have hspl:(YH cs (T.off path) vs).size=cs.size:=Yu5 (by omega)
      obtain ⟨m',k1,k2⟩:=h.writeBox hb h1 g1 g2 (by rw [hspl]; exact h4)
      refine ⟨_,fz,m',?_,k1⟩
      rw [hqs.1]
      simp only [Instr.storeAt,Instr.sureAddr,pure_bind]
      exact YUh hty h1 h4 hvc hn (by omega)
     ·rw [hb] at hb'; cases hb'
    ·cases hs
  ·cases hs
 ·-- into a row
  rename_i r i path
  obtain ⟨y,rfl,hy⟩:=hv.pointer
  split at hs
  ·rename_i t' xs hr
   cases hc:(t'.pure&&fits (t'.at path) q) with
   | false=> rw [hc] at hs; cases hs
   | true=>
    rw [hc,Ygu] at hs
    simp only [Ylu] at hc
    obtain ⟨hp,hfit⟩:=hc
    split at hs
    ·rename_i q' hset
     split at hs
     ·rename_i z s1 hden
      split at hs
      ·rename_i t2 xs2 hr2
       cases hs
       obtain ⟨t3,o3,xs3,b,off,len,cap,hr3,hρ,hi,hT,hcs⟩:=hy
       rw [hr] at hr3
       cases hr3
       cases hcs
       obtain ⟨b',off',cap',c,el,fr,X',g1,g2,g3,g4,g5,_,g7⟩:=(h.rows r t' xs hr).1.block (by omega)
       rw [hρ] at g1
       cases g1
       obtain ⟨hFr,_⟩:=g7 rfl
       have hX':X'=[]:=RepL.pure (fun x cs X h=> Rep.pure t' hp h) g5
       subst hX'
       obtain ⟨X2,g8,g9⟩:=YH7 g5 hi
       have hX2:X2=[]:=Rep.pure t' hp g8
       subst hX2
       have hs2:=YW hfit
       have hle:=Ty.off_le hT
       have he:(t'.at path).size=vs.length:=by rw [hvl,hs2.2]
       obtain ⟨k1,k2⟩:=RepP.set (p:=.val t' (xs.getD i t'.zero)) (m:=m) (s:=s) hT ⟨hp,g8⟩ (by rw [YU]; exact Ty.same_refl _) hq hfit hset
       obtain ⟨fz1,ω1,ωK,sK,X,A,j⟩:=Yi3 t' (m:=m) (ω:=m.ω) (ωK:=m.ω) h h (Par.refl s) (fun _ h=> h) k1 hden
       have hX:X=[]:=Rep.pure t' hp j
       subst hX
       obtain ⟨o4,xs4,hr4,hl4⟩:=A.le.rows r t' .live xs hr
       rw [hr2] at hr4
       cases hr4
       have hin:(i+1)*t'.size<=xs.length*t'.size:=YTu _ (by omega)
       have hin2:xs.length*t'.size<=cap*t'.size:=YTu _ g3
       rw [Nat.succ_mul] at hin
       have hn:vs.length=u.size:=by rw [hvl,hqs.2]
       have hset':=RepL.set (R:=Rep w fz1 t') (n:=t'.size) (fun x cs X h=> ⟨Rep.length t' h,Rep.pure t' hp h⟩) i z _
        (RepL.mono (fun x cs X h hX=> by
         have:=Rep.pure t' hp h
         subst this
         exact Rep.frame (fun _ _=> rfl) A.fzs t' (fun _ h=> by cases h) h) g5) hi j
       have hwin:Yl c (off+i*t'.size) t'.size=((Yl c off (xs.length*t'.size)).drop (i*t'.size)).take t'.size:=(YG8 hin).symm
       rw [he,hwin,<-YHf _ _ _ _ _ _ (by omega),<-Y0c (by omega) (by omega)] at hset'
       have hrel:=A.rel
       obtain ⟨m',q1,q2⟩:=hrel.writeRow (ys:=xs.set i z) (c':=YH c (off+(i*t'.size+t'.off path)) vs) hp hr2 hρ g2 (Yu5 (by omega)) (by rw [List.length_set,hl4]) (by rw [List.length_set]; exact hset')
       refine ⟨_,fz1,m',?_,q1⟩
       rw [hqs.1]
       simp only [Instr.storeAt,Instr.sureAddr,pure_bind,<-Nat.add_assoc]
       exact YUh hty g2 hFr hvc hn (by omega)
      ·cases hs
     ·cases hs
    ·cases hs
  ·cases hs
 ·cases hs
end
end Go.Abs
namespace Go.Abs
theorem Ydu {T:Ty} (h:T.zok=true):T.pure=true:=by
 induction T with
 | pair a b iha ihb=> simp only [Ty.zok,Ylu] at h; simp [Ty.pure,iha h.1,ihb h.2]
 | st a ih=> exact ih h
 | arr n a ih=> exact ih h
 | sl o a=> exact h
 | int k=> rfl
 | bool=> rfl
 | str=> rfl
 | unit=> rfl
 | _=> cases h
theorem RepL.replicate {α:Type} {R:α->List Value->List Nat->Prop} {x:α} {cs:List Value} (h:R x cs []):∀ n:Nat,RepL R (List.replicate n x) (List.replicate n cs).flatten []
 | 0=> ⟨rfl,rfl⟩
 | n+1=> ⟨cs,(List.replicate n cs).flatten,[],[],rfl,rfl,h,RepL.replicate h n⟩
theorem Yyi {w:World} {fz:Nat->Prop} {T:Ty} (h:T.zok=true):Rep w fz T T.zero (zeroCells T) []:=by
 induction T with
 | pair a b iha ihb=> simp only [Ty.zok,Ylu] at h; exact ⟨_,_,[],[],rfl,rfl,iha h.1,ihb h.2⟩
 | st a ih=> exact ih h
 | arr n a ih=> exact ⟨List.length_replicate,RepL.replicate (ih h) n⟩
 | sl o a=> exact .inl ⟨rfl,rfl,rfl⟩
 | int k=> exact ⟨rfl,rfl⟩
 | bool=> exact ⟨rfl,rfl⟩
 | str=> exact ⟨rfl,rfl⟩
 | unit=> exact ⟨rfl,rfl⟩
 | _=> cases h
theorem Ysq {A B:Ty} {p q:PV} (h:fits (.pair A B) (.mkPair p q)=true):fits A p=true/\fits B q=true:=by
 unfold PV.mkPair at h
 split at h
 ·rw [YU] at h
  simp only [Ty.same,Ylu] at h
  rw [YU,YU]
  exact h
 ·simp only [fits,Ylu] at h
  exact h
theorem Ytq {A:Ty} {p:PV} (h:fits (.st A) (.mkSt p)=true):fits A p=true:=by
 unfold PV.mkSt at h
 split at h
 ·rw [YU] at h
  simp only [Ty.same] at h
  rw [YU]
  exact h
 ·simp only [fits] at h
  exact h
theorem Ywi {w:World} {fz:Nat->Prop} {m:Maps} {s:St}:∀ {T:Ty},fits T (Y31 T)=true->RepP w fz m s (Y31 T) (zeroCells T):=by
 intro T
 induction T with
 | pair a b iha ihb=>
  intro h
  obtain ⟨h1,h2⟩:=Ysq h
  exact (iha h1).mkPair (ihb h2)
 | st a ih=> intro h; exact (ih (Ytq h)).mkSt
 | sl o a=> intro h; rfl
 | ptr a=> intro h; rfl
 | rptr a=> intro h; rfl
 | optr a=> intro h; rfl
 | nilp=> intro h; rfl
 | int k=> intro h; exact ⟨rfl,rfl,rfl⟩
 | bool=> intro h; exact ⟨rfl,rfl,rfl⟩
 | str=> intro h; exact ⟨rfl,rfl,rfl⟩
 | unit=> intro h; exact ⟨rfl,rfl,rfl⟩
 | arr n a=>
  intro h
  cases hz:Ty.zok (.arr n a) with
  | true=>
   have e:Y31 (.arr n a)=.val (.arr n a) (Ty.zero (.arr n a)):=by simp only [Y31,hz,Ygu]
   rw [e]
   exact ⟨Ydu hz,Yyi hz⟩
  | false=>
   have e:Y31 (.arr n a)=.undef:=by simp only [Y31,hz,Yhu]
   rw [e] at h
   simp [fits] at h
 | clo f n a=>
  intro h
  have e:Y31 (.clo f n a)=.undef:=rfl
  rw [e] at h
  simp [fits] at h
theorem Y3c:∀ {T:Ty},∀ c∈zeroCells T,YZ c:=by
 intro T
 induction T with
 | pair a b iha ihb=> intro c hc; simp only [zeroCells,YAu] at hc; exact hc.elim (iha c) (ihb c)
 | st a ih=> exact ih
 | arr n a ih=>
  intro c hc
  simp only [zeroCells,List.mem_flatten,List.mem_replicate] at hc
  obtain ⟨l,⟨_,rfl⟩,hc⟩:=hc
  exact ih c hc
 | unit=> intro c hc; cases hc
 | _=> intro c hc; simp only [zeroCells,YNu] at hc; subst hc; trivial
theorem Y04:∀ {T:Ty},(zeroCells T).length=T.size:=by
 intro T
 induction T with
 | pair a b iha ihb=> simp [zeroCells,Ty.size,iha,ihb]
 | st a ih=> exact ih
 | arr n a ih=> simp [zeroCells,Ty.size,ih]
 | _=> rfl
section
variable {w0:World} {X0:Ent} {a:Act} {w:World} {fz:Nat->Prop} {m:Maps} {s:St} {E:Env}
def World.pushed (w:World) (o:Obj):World:={ w with heap:=w.heap.push o }
theorem Yob (w:World) (o:Obj) (Y:List Nat):Keep w Y (World.pushed w o):=by
 refine ⟨rfl,rfl,rfl,by simp [World.pushed],fun k hk _=> ?_⟩
 simp only [World.pushed,Array.getElem?_push]
 rw [Yju (by omega)]
theorem Ynb (w:World) (o:Obj):(World.pushed w o).heap[w.heap.size]? =some o:=by simp only [World.pushed,Array.getElem?_push_size]
theorem Ypb {w:World} {o:Obj} {k:Nat} (h:k < w.heap.size):(World.pushed w o).heap[k]? =w.heap[k]? :=by
 simp only [World.pushed,Array.getElem?_push]
 rw [Yju (by omega)]
theorem YKi (n:Nat):FrOK (0,0) n:=fun o _ h=> by simp at h
theorem Rel.newBox {X:List Nat} (h:Rel w0 X0 fz m X s a w) {b:Nat} {T:Ty} {c:PV} {cs:Array Value} {el:TypeId} (hb:s.boxes b=.none) (hc:RepP w fz m s c cs.toList) (hT:fits T c=true):
  ∃ m',Rel w0 X0 fz m' X (s.setBox b (.cells T .live c)) a (World.pushed w (.cells cs el))/\MapsLe s m m'/\m'.γ b=w.heap.size/\StLe s (s.setBox b (.cells T .live c)):=by
 have h1:=h.alloc (Yob w (.cells cs el) X) (Nat.le_refl _) (by simp [World.pushed])
 have hf:∀ k,fz k->(World.pushed w (.cells cs el)).heap[k]? =w.heap[k]? :=fun k hk=> Ypb (h.fzs k hk).1
 have hc':=RepP.le (StLe.refl s) (m:=m) (m':={ m with ω:=upd m.ω w.heap.size (some .hand) }) ⟨fun _ _=> rfl,fun _ _=> rfl⟩ hf (fun _ h=> h) hc
 obtain ⟨h2,h3,h4⟩:=h1.giveBox hb (Ynb w _) hc' hT (YKi _)
 exact ⟨_,h2,⟨h3.ρ,h3.γ⟩,YF1 _ _ _,h4⟩
theorem Rel.newIter (h:Rel w0 X0 fz m [] s a w) {b:Nat} {l:List UInt8} (hb:s.boxes b=.none):
  ∃ m',Rel w0 X0 fz m' [] (s.setBox b (.iter l 0)) a (World.pushed w (.stringIter ⟨l.toArray⟩ 0))/\MapsLe s m m'/\m'.γ b=w.heap.size:=by
 have h1:=h.alloc (Yob w (.stringIter ⟨l.toArray⟩ 0) []) (Nat.le_refl _) (by simp [World.pushed])
 obtain ⟨h2,h3,h4⟩:=h1.giveIter hb (Ynb w _)
 exact ⟨_,h2,⟨h3.ρ,h3.γ⟩,YF1 _ _ _⟩
theorem Rel.newRow {X:List Nat} (h:Rel w0 X0 fz m X s a w) {r:Nat} {t:Ty} {xs:List t.den} {cs:Array Value} {el:TypeId} {fr:Nat×Nat} {cap:Nat} (hr:s.rows r=.none)
  (hx:RepL (Rep w fz t) xs (cs.toList.take (xs.length*t.size)) X) (hcap:xs.length<=cap) (hsz:cap*t.size<=cs.size) (hF:FrT t fr cs.size):
  ∃ m',Rel w0 X0 fz m' [] (s.setRow r (.mk t .live xs)) a (World.pushed w (.cells cs el fr))/\MapsLe s m m'/\m'.ρ r=.slice (some ⟨w.heap.size,0,none⟩) xs.length cap/\StLe s (s.setRow r (.mk t .live xs)):=by
 have h1:=h.alloc (Yob w (.cells cs el fr) X) (Nat.le_refl _) (by simp [World.pushed])
 have hf:∀ k,fz k->(World.pushed w (.cells cs el fr)).heap[k]? =w.heap[k]? :=fun k hk=> Ypb (h.fzs k hk).1
 have hrep:Rep (World.pushed w (.cells cs el fr)) fz (.sl true t) xs [.slice (some ⟨w.heap.size,0,none⟩) xs.length cap] (w.heap.size::X):=by
  right
  left
  refine ⟨w.heap.size,0,cap,cs,el,fr,X,rfl,Ynb _ _,hcap,by omega,?_,hF,rfl⟩
  rw [Yl,YZu]
  exact RepL.mono (fun x cs X' hx hX=> Rep.frame hf (fun _ h=> h) t (fun b hb=> Ypb (h.own b _ (h.hand.2 b (hX b hb))).1) hx) hx
 obtain ⟨h2,h3,h4⟩:=Rel.giveRow (X:=w.heap.size::X) (Y:=[]) (by rw [YHu]; exact h1) (v:=.slice (some ⟨w.heap.size,0,none⟩) xs.length cap) hr hrep
 exact ⟨_,h2,⟨h3.ρ,h3.γ⟩,YF1 _ _ _,h4⟩
theorem Y9e {m':Maps} {s':St} {b k:Nat} {T:Ty} {o:Own} {c:PV} (hb:s'.boxes b=.cells T o c) (hk:m'.γ b=k):RepS w fz m' s' (.addr (.box b) []) (.pointer (some ⟨k,0,none⟩)):=by
 subst hk
 exact ⟨_,.inl ⟨T,o,c,hb,.nil _,rfl⟩,by rw [Ty.off_nil]; rfl⟩
theorem YAb {m':Maps} {s':St} {r:Nat} {v:Value} {t:Ty} {o:Own} {xs:List t.den} (hr:s'.rows r=.mk t o xs) (hk:m'.ρ r=v) (hv:YZ v):RepS w fz m' s' (.row r) v:=by
 subst hk
 exact ⟨_,⟨rfl,hv,by rw [hr]; simp⟩,rfl⟩
theorem YWq {P:Program} {t:TypeId} {l:List UInt8} {k:IntKind} {i:Int} (hu:P.underlying t=some .string) (hi:Ya i l.length=true):
  (Instr.index t (.string ⟨l.toArray⟩) (.int k i)).run P w=.ok (.int .u8 ((l.getD i.toNat 0).toNat:Int)) w:=by
 obtain ⟨h1,h2⟩:=Y95.1 hi
 have hlt:i.toNat < l.length:=by omega
 have e:(⟨l.toArray⟩:ByteArray)[i.toNat]? =some (l.getD i.toNat 0):=by
  have hs:i.toNat < (⟨l.toArray⟩:ByteArray).size:=by rw [YL2]; exact hlt
  rw [getElem?_pos (⟨l.toArray⟩:ByteArray) i.toNat hs]
  simp [ByteArray.getElem_eq_getElem_data,List.getD,hlt]
 simp only [Instr.index,asIntOf,Sem.run_bind,Sem.run_pure,Result.andThen_ok,Yz hu,h1,if_true,e]
theorem YVq (hE:EnvOK E) {t:TypeId} {n:Nat} {e u:Ty} {l:List u.den} {v:Value} {k:IntKind} {i:Int} (ht:E.ty t=some (.arr n e)) (hs:e.same u=true) (hv:RepS w fz m s (.val (.arr n u) l) v) (hi:Ya i n=true):
  ∃ z,(Instr.index t v (.int k i)).run E.P w=.ok z w/\RepS w fz m s (.val u (l.getD i.toNat u.zero)) z:=by
 obtain ⟨h1,h2⟩:=Y95.1 hi
 obtain ⟨_,el,hu,hel⟩:=hE.ty t _ ht
 obtain ⟨cs,hp,⟨hl,hx⟩,rfl⟩:=hv.reads
 have hsz:=Ty.same_size hs
 obtain ⟨X',g1,g2⟩:=RepL.get (fun x cs X h=> Rep.length u h) u.zero i.toNat hx (by omega)
 have hX:X'=[]:=Rep.pure u hp g1
 subst hX
 have hlen:cs.length=n*u.size:=by rw [RepL.length (fun x cs X h=> Rep.length u h) hx,hl]
 have hin:(i.toNat+1)*u.size<=n*u.size:=YTu _ (by omega)
 rw [Nat.succ_mul] at hin
 refine ⟨_,?_,RepS.val hp g1⟩
 have hsize:∀ w,(sizeOf el).run E.P w=.ok e.size w:=fun w=> TyOK.sizeOf (T:=e) hel w
 rw [show mkV (Ty.isAgg (.arr n u)) cs=.agg cs.toArray from rfl]
 simp only [Instr.index,asIntOf,Sem.run_bind,Sem.run_pure,Result.andThen_ok,Yz hu,h1,h2,and_self,if_true,hsize]
 rw [YL3 (T:=e) hel (by simp; rw [hsz.1]; omega),hsz.1,hsz.2]
end
end Go.Abs
namespace Go.Abs
section
variable {w0:World} {X0:Ent} {a:Act} {w:World} {fz:Nat->Prop} {m:Maps} {s:St} {E:Env}
def Y14:Option Int->Option Value->Prop
 | none,none=> True
 | some i,some v=> ∃ k,v=.int k i
 | _,_=> False
theorem Ys8 {P:Program} {k:IntKind} {i:Int} {y:Nat} {c:BoundsCode} (h:0<=i/\i<=y):(Instr.sliceBound (.int k i) y c).run P w=.ok i.toNat w:=by
 simp only [Instr.sliceBound,asIntOf,Sem.run_bind,Sem.run_pure,Result.andThen_ok,h.1,h.2,and_self,if_true]
theorem Yj6 {P:Program} {b:Bool} {lo hi:Option Int} {vl vh:Option Value} {n cap:Nat} (hl:Y14 lo vl) (hh:Y14 hi vh) (hok:Yi lo hi n=true) (hcap:n<=cap):
  (Instr.sliceBounds b n cap vl vh none).run P w=.ok ((lo.map Int.toNat).getD 0,(hi.map Int.toNat).getD n,cap) w:=by
 cases lo <;> cases vl <;> (try (cases hl; done)) <;> cases hi <;> cases vh <;> (try (cases hh; done)) <;> simp only [Yi,Ylu,Yxu] at hok
 ·simp [Instr.sliceBounds]
 ·obtain ⟨k,rfl⟩:=hh
  simp only [Instr.sliceBounds,Sem.run_bind,Sem.run_pure,Result.andThen_ok]
  rw [Ys8 ⟨hok.1,by omega⟩]
  simp
 ·obtain ⟨k,rfl⟩:=hl
  simp only [Instr.sliceBounds,Sem.run_bind,Sem.run_pure,Result.andThen_ok]
  rw [Ys8 ⟨hok.1,by omega⟩]
  simp
 ·obtain ⟨k,rfl⟩:=hl
  obtain ⟨k',rfl⟩:=hh
  simp only [Instr.sliceBounds,Sem.run_bind,Sem.run_pure,Result.andThen_ok]
  rw [Ys8 ⟨by omega,by omega⟩]
  simp only [Result.andThen_ok]
  rw [Ys8 ⟨hok.1,by omega⟩]
  simp
theorem YC7 {lo hi:Option Int} {n:Nat} (hok:Yi lo hi n=true):(lo.map Int.toNat).getD 0<=(hi.map Int.toNat).getD n/\(hi.map Int.toNat).getD n<=n:=by
 cases lo <;> cases hi <;> simp only [Yi,Ylu,Yxu] at hok <;> simp <;> omega
theorem YGf {α:Type} {lo hi:Option Int} {x:List α} (_:Yi lo hi x.length=true):Ym lo hi x=(x.take ((hi.map Int.toNat).getD x.length)).drop ((lo.map Int.toNat).getD 0):=by
 cases lo <;> cases hi <;> simp [Ym]
def cutV (v:Value) (size l h:Nat):Value:=match v with
 | .slice a _ cap=> .slice (if cap=l then a else a.map (·.add (l*size))) (h - l) (cap - l)
 | v=> v
theorem Yla {size l h:Nat} (hl:l<=h) {v:Value} {lo hi:Nat} {V:Value} (hv:Yq3 V size lo hi [v]) (hh:h<=hi - lo):Yq3 V size (lo+l) (lo+h) [cutV v size l h]:=by
 rcases hv with ⟨rfl,e,rfl,rfl⟩ | ⟨a,rfl,e,rfl,rfl⟩ | ⟨b,off,len,cap,off',cap',rfl,e,h1,h2,h3⟩
 rotate_left
 ·cases e
  right
  left
  have:h=0:=by omega
  subst this
  have:l=0:=by omega
  subst this
  exact ⟨a,rfl,rfl,rfl,rfl⟩
 rotate_right
 ·cases e
  left
  have:h=0:=by omega
  subst this
  have:l=0:=by omega
  subst this
  exact ⟨rfl,rfl,rfl,rfl⟩
 ·cases e
  right
  right
  refine ⟨b,off,len,cap,if cap'=l then off' else off'+l*size,cap' - l,rfl,?_,?_,?_,?_⟩
  ·simp only [cutV]
   by_cases e:cap'=l
   ·rw [Yku e,Yku e]; congr 2; omega
   ·rw [Yju e,Yju e]
    simp only [Option.map_some,Yr3]
    congr 2; omega
  ·intro hlt
   rw [Yju (by omega),h1 (by omega),Nat.add_mul]; omega
  ·by_cases e:cap'=l
   ·rw [Yku e,show cap' - l=0 by omega,Nat.zero_mul]
    have:0<=cap'*size:=Nat.zero_le _
    omega
   ·rw [Yju e,Nat.add_assoc,<-Nat.add_mul,show l+(cap' - l)=cap' by omega]; exact h2
  ·omega
theorem Ysh {v:Value} {size n:Nat} (h:v=.slice none 0 0/\n=0\/(∃ a,v=.slice (some a) 0 0/\n=0)\/∃ b off cap,v=.slice (some ⟨b,off,none⟩) n cap/\n<=cap):Yq3 v size 0 n [v]:=by
 rcases h with ⟨rfl,rfl⟩ | ⟨a,rfl,rfl⟩ | ⟨b,off,cap,rfl,h⟩
 ·exact .inl ⟨rfl,rfl,rfl,rfl⟩
 ·exact .inr (.inl ⟨a,rfl,rfl,rfl,rfl⟩)
 ·exact .inr <| .inr ⟨b,off,n,cap,off,cap,rfl,rfl,by omega,by omega,by omega⟩
theorem Rep.shape {o:Bool} {t:Ty} {xs:List t.den} {v:Value} {X:List Nat} (h:Rep w fz (.sl o t) xs [v] X):v=.slice none 0 0/\xs.length=0\/(∃ a,v=.slice (some a) 0 0/\xs.length=0)\/∃ b off cap,v=.slice (some ⟨b,off,none⟩) xs.length cap/\xs.length<=cap:=by
 rcases h with ⟨h,e,_⟩ | ⟨b,off,cap,c,el,fr,X',h1,h2,h3,_⟩ | ⟨_,b,h,e,_⟩
 ·cases h; subst e; exact .inl ⟨rfl,rfl⟩
 ·cases h1; exact .inr (.inr ⟨b,off,cap,rfl,h3⟩)
 ·cases h; subst e; exact .inr (.inl ⟨b,rfl,rfl⟩)
theorem YHb {P:Program} {t e:TypeId} {v:Value} {size n l h:Nat} {vl vh:Option Value} {lo hi:Option Int} (hu:P.underlying t=some (.slice e)) (hsz:∀ w,(sizeOf e).run P w=.ok size w) (hl:Y14 lo vl) (hh:Y14 hi vh)
  (hok:Yi lo hi n=true) (hv:v=.slice none 0 0/\n=0\/(∃ a,v=.slice (some a) 0 0/\n=0)\/∃ b off cap,v=.slice (some ⟨b,off,none⟩) n cap/\n<=cap) (el:l=(lo.map Int.toNat).getD 0) (eh:h=(hi.map Int.toNat).getD n):
  (Instr.sliceAt t v vl vh none).run P w=.ok (cutV v size l h) w:=by
 subst el eh
 simp only [Instr.sliceAt,Sem.run_bind,Yz hu,Result.andThen_ok]
 rcases hv with ⟨rfl,rfl⟩ | ⟨a,rfl,rfl⟩ | ⟨b,off,cap,rfl,hc⟩
 ·simp only [Instr.slice,Sem.run_bind,Yz hu,Result.andThen_ok,Yj6 hl hh hok (Nat.le_refl _),hsz,Sem.run_pure]
  rfl
 ·simp only [Instr.slice,Sem.run_bind,Yz hu,Result.andThen_ok,Yj6 hl hh hok (Nat.le_refl _),hsz,Sem.run_pure]
  rfl
 ·simp only [Instr.slice,Sem.run_bind,Yz hu,Result.andThen_ok,Yj6 hl hh hok hc,hsz,Sem.run_pure]
  rfl
theorem Yut (hE:EnvOK E) {Y:List Nat} (h:Rel w0 X0 fz m Y s a w) {t:TypeId} {u:Ty} {p q:PV} {v:Value} {lo hi:Option Int} {vl vh:Option Value} (ht:E.ty t=some u) (hv:RepS w fz m s p v) (hl:Y14 lo vl) (hh:Y14 hi vh)
  (hs:Y82 s u p lo hi=some (true,q)):∃ z,(Instr.sliceAt t v vl vh none).run E.P w=.ok z w/\RepS w fz m s q z:=by
 have hty:=hE.ty t u ht
 unfold Y82 at hs
 split at hs
 ·-- a text
  split at hs
  ·rename_i x
   simp only [Ytu,YJu] at hs
   obtain ⟨hok,rfl⟩:=hs
   have:=hv.str; subst this
   obtain ⟨_,hu⟩:=hty
   have hok':Yi lo hi (⟨x.toArray⟩:ByteArray).size=true:=by rw [YL2]; exact hok
   refine ⟨_,?_,Y12 _⟩
   simp only [Instr.sliceAt,Sem.run_bind,Yz hu,Result.andThen_ok,Instr.slice,Option.isSome_none,YSu,if_false,Yj6 hl hh hok' (Nat.le_refl _),Sem.run_pure]
   rw [YGf hok,YL2]
   congr 2
   apply ByteArray.ext
   apply Array.ext'
   simp [ByteArray.data_extract,List.extract_eq_take_drop,List.drop_take]
  ·cases hs
 ·-- a slice
  rename_i o e
  obtain ⟨_,el,hu,hel⟩:=hty
  have hsize:∀ w,(sizeOf el).run E.P w=.ok e.size w:=fun w=> TyOK.sizeOf (T:=e) hel w
  split at hs
  ·rename_i own t' x
   obtain ⟨cs,hp,hx,rfl⟩:=hv.reads
   cases hsz:Nat.beq e.size t'.size with
   | false=> rw [hsz] at hs; cases hs
   | true=>
    rw [hsz] at hs
    simp only [Ygu,Ytu,YJu] at hs
    obtain ⟨hok,rfl⟩:=hs
    have hsz:=YOu hsz
    have hown:own=false:=by simp only [Ty.pure,Ylu,YXu] at hp; exact hp.1
    have hpt:t'.pure=true:=by simp only [Ty.pure,Ylu] at hp; exact hp.2
    subst hown
    obtain ⟨v',rfl⟩:∃ v',cs=[v']:=List.length_eq_one_iff.1 (by rw [hx.length]; rfl)
    obtain ⟨h1,h2⟩:=YC7 hok
    refine ⟨_,YHb (v:=v') (n:=List.length x) hu hsize hl hh hok hx.shape rfl rfl,?_⟩
    rw [YGf hok]
    refine RepS.val (T:=.sl false t') (cs:=[_]) hp (Rep.part hpt hx h1 h2 ?_)
    have:=Yla (size:=e.size) h1 (Ysh (size:=e.size) hx.shape) (by omega)
    rw [Y2v,Y2v] at this
    rw [<-hsz]; exact this
  ·rename_i r
   have hv':v=m.ρ r:=by obtain ⟨cs,⟨rfl,_⟩,rfl⟩:=hv; rfl
   have key:∀ t' o' xs,s.rows r=.mk t' o' xs->o'≠.dead->(bif Nat.beq e.size t'.size then some (Yi lo hi xs.length,PV.part r ((lo.map Int.toNat).getD 0) ((hi.map Int.toNat).getD xs.length)) else none)=some (true,q)->
     ∃ z,(Instr.sliceAt t v vl vh none).run E.P w=.ok z w/\RepS w fz m s q z:=by
    intro t' o' xs hr ho hs
    cases hsz:Nat.beq e.size t'.size with
    | false=> rw [hsz] at hs; cases hs
    | true=>
     rw [hsz] at hs
     simp only [Ygu,Ytu,YJu] at hs
     obtain ⟨hok,rfl⟩:=hs
     have hsz:=YOu hsz
     obtain ⟨qq,X,hrep⟩:=h.rowAny hr ho
     obtain ⟨h1,h2⟩:=YC7 hok
     rw [<-hv'] at hrep
     refine ⟨_,YHb (n:=xs.length) hu hsize hl hh hok hrep.shape rfl rfl,⟨[_],⟨t',o',xs,hr,h1,h2,?_⟩,rfl⟩⟩
     have:=Yla (size:=e.size) h1 (Ysh (size:=e.size) hrep.shape) (by omega)
     rw [Y2v,Y2v] at this
     rw [<-hsz,<-hv']; exact this
   cases hr:s.rows r with
   | none=> rw [hr] at hs; cases hs
   | mk t' o' xs=>
    rw [hr] at hs
    cases o' with
    | dead=> cases hs
    | live=> exact key t' .live xs hr (by simp) hs
    | frz=> exact key t' .frz xs hr (by simp) hs
  ·rename_i r lo' hi'
   obtain ⟨cs,⟨t1,o1,xs1,hr1,hlo,hhi,hpart⟩,rfl⟩:=hv
   have key:o1≠.dead->(bif Nat.beq e.size t1.size then some (Yi lo hi (hi' - lo'),PV.part r (lo'+(lo.map Int.toNat).getD 0) ((hi.map fun h=> lo'+h.toNat).getD hi')) else none)=some (true,q)->
     ∃ z,(Instr.sliceAt t (mkV (PV.part r lo' hi').isAgg cs) vl vh none).run E.P w=.ok z w/\RepS w fz m s q z:=by
    intro ho hs
    cases hsz:Nat.beq e.size t1.size with
    | false=> rw [hsz] at hs; cases hs
    | true=>
     rw [hsz] at hs
     simp only [Ygu,Ytu,YJu] at hs
     obtain ⟨hok,rfl⟩:=hs
     have hsz:=YOu hsz
     obtain ⟨h1,h2⟩:=YC7 hok
     obtain ⟨v',rfl⟩:∃ v',cs=[v']:=by
      rcases hpart with ⟨_,rfl,_⟩ | ⟨_,_,rfl,_⟩ | ⟨_,_,_,_,_,_,_,rfl,_⟩ <;> exact ⟨_,rfl⟩
     have hsh:v'=.slice none 0 0/\hi' - lo'=0\/(∃ a,v'=.slice (some a) 0 0/\hi' - lo'=0)\/∃ b off cap,v'=.slice (some ⟨b,off,none⟩) (hi' - lo') cap/\hi' - lo'<=cap:=by
      rcases hpart with ⟨_,e,rfl,rfl⟩ | ⟨a,_,e,rfl,rfl⟩ | ⟨b,off,len,cap,off',cap',_,e,_,_,e5⟩
      ·cases e; exact .inl ⟨rfl,rfl⟩
      ·cases e; exact .inr (.inl ⟨a,rfl,rfl⟩)
      ·cases e; exact .inr (.inr ⟨b,off',cap',rfl,e5.1⟩)
     have hp2:=Yla (size:=t1.size) h1 hpart h2
     have e1:(hi.map fun h=> lo'+h.toNat).getD hi'=lo'+(hi.map Int.toNat).getD (hi' - lo'):=by cases hi <;> simp; omega
     rw [e1]
     refine ⟨_,YHb (v:=v') (n:=hi' - lo') hu hsize hl hh hok hsh rfl rfl,⟨[_],⟨t1,o1,xs1,hr1,by omega,by omega,?_⟩,rfl⟩⟩
     rw [hsz]; exact hp2
   rw [hr1] at hs
   cases o1 with
   | dead=> cases hs
   | live=> exact key (by simp) hs
   | frz=> exact key (by simp) hs
  ·cases hs
 ·-- an array
  rename_i n e
  obtain ⟨_,el,hu,hel⟩:=hty
  have hsize:∀ w,(sizeOf el).run E.P w=.ok e.size w:=fun w=> TyOK.sizeOf (T:=e) hel w
  split at hs
  ·rename_i b path
   split at hs
   ·rename_i mm t' y hld
    obtain ⟨x,rfl,hx⟩:=hv.pointer
    obtain ⟨T,hT,hsame⟩:=YSg h hx hld
    cases hc:(Nat.beq n mm&&Nat.beq e.size t'.size) with
    | false=> rw [hc] at hs; cases hs
    | true=>
     rw [hc] at hs
     simp only [Ygu,Ytu,YJu] at hs
     obtain ⟨hok,rfl⟩:=hs
     simp only [Ylu] at hc
     have hn:=YOu hc.1
     have hsz:=YOu hc.2
     subst hn
     obtain ⟨h1,h2⟩:=YC7 hok
     rcases hx with ⟨T',o',c,hb,hp,hcs⟩ | ⟨l,k,hb,_,_⟩
     ·cases hcs
      simp only [St.tyAt,hb,Ytu] at hT
      subst hT
      have harr:∃ u2,T'.at path=.arr n u2/\u2.same t'=true:=by
       cases e:T'.at path <;> rw [e] at hsame <;> simp only [Ty.same,Ylu,YSu,Ty.same.isPtr] at hsame
       have hn:=YOu hsame.1
       subst hn
       exact ⟨_,rfl,hsame.2⟩
      obtain ⟨u2,hu2,hs2⟩:=harr
      have hz:u2.size=e.size:=by rw [(Ty.same_size hs2).1,hsz]
      refine ⟨_,?_,⟨[_],⟨T',o',c,n,u2,hb,hp,hu2,h1,h2,if n=(lo.map Int.toNat).getD 0 then T'.off path else T'.off path+(lo.map Int.toNat).getD 0*e.size,n - (lo.map Int.toNat).getD 0,rfl,?_,?_,by omega⟩,rfl⟩⟩
      ·simp only [Instr.sliceAt,Sem.run_bind,Yz hu,Result.andThen_ok,Instr.sureAddr,Sem.run_pure,Yj6 hl hh hok (Nat.le_refl _),hsize,Yr3]
       show _=Result.ok (Value.slice _ _ _) w
       congr 3
       by_cases e:n=(lo.map Int.toNat).getD 0
       ·rw [Yku e,Yku e]
       ·rw [Yju e,Yju e]
      ·intro hlt
       rw [Yju (by omega),hz]
      ·by_cases e2:n=(lo.map Int.toNat).getD 0
       ·rw [Yku e2,show n - (lo.map Int.toNat).getD 0=0 by omega,Nat.zero_mul]
        have:0<=n*u2.size:=Nat.zero_le _
        omega
       ·rw [Yju e2,hz,Nat.add_assoc,<-Nat.add_mul,show (lo.map Int.toNat).getD 0+(n - (lo.map Int.toNat).getD 0)=n by omega]
        exact Nat.le_refl _
     ·simp [St.tyAt,hb] at hT
   ·cases hs
  ·cases hs
 ·cases hs
end
end Go.Abs
namespace Go.Abs
theorem RepL.append {α:Type} {R:α->List Value->List Nat->Prop}:∀ {xs ys:List α} {c1 c2:List Value} {X1 X2:List Nat},RepL R xs c1 X1->RepL R ys c2 X2->RepL R (xs++ys) (c1++c2) (X1++X2)
 | [],ys,c1,c2,X1,X2,h,g=> by obtain ⟨rfl,rfl⟩:=h; exact g
 | x::xs,ys,c1,c2,X1,X2,h,g=> by
  obtain ⟨d1,d2,Z1,Z2,rfl,rfl,h1,h2⟩:=h
  exact ⟨d1,d2++c2,Z1,Z2++X2,by simp,by simp,h1,RepL.append h2 g⟩
section
variable {w0:World} {X0:Ent} {a:Act} {w:World} {fz:Nat->Prop} {m:Maps} {s:St} {E:Env}
def SliceAt (w:World) (fz:Nat->Prop) (t:Ty) (xs:List t.den) (v:Value):Prop:=
 (v=.slice none 0 0/\xs=[])\/(∃ a,v=.slice (some a) 0 0/\xs=[])\/
 ∃ b off cap c el fr,v=.slice (some ⟨b,off,none⟩) xs.length cap/\w.heap[b]? =some (.cells c el fr)/\xs.length<=cap/\off+cap*t.size<=c.size/\RepL (Rep w fz t) xs (Yl c off (xs.length*t.size)) []
theorem Rep.sliceAt {o:Bool} {t:Ty} (ht:t.pure=true) {xs:List t.den} {v:Value} {X:List Nat} (h:Rep w fz (.sl o t) xs [v] X):SliceAt w fz t xs v:=by
 rcases h with ⟨h,e,_⟩ | ⟨b,off,cap,c,el,fr,X',h1,h2,h3,h4,h5,h6⟩ | ⟨_,b,h,e,_⟩
 ·cases h; exact .inl ⟨rfl,e⟩
 rotate_left
 ·cases h; exact .inr (.inl ⟨b,rfl,e⟩)
 ·cases h1
  have hX:X'=[]:=RepL.pure (fun x cs X h=> Rep.pure t ht h) h5
  subst hX
  exact .inr (.inr ⟨b,off,cap,c,el,fr,rfl,h2,h3,h4,h5⟩)
theorem SliceAt.part {t:Ty} (ht:t.pure=true) {xs:List t.den} {v z:Value} {lo hi:Nat} (h:SliceAt w fz t xs v) (h1:lo<=hi) (h2:hi<=xs.length) (hp:Yq3 v t.size lo hi [z]):SliceAt w fz t ((xs.take hi).drop lo) z:=by
 have hR:∀ x cs X,Rep w fz t x cs X->cs.length=t.size/\X=[]:=fun x cs X h=> ⟨Rep.length t h,Rep.pure t ht h⟩
 rcases hp with ⟨rfl,e,rfl,rfl⟩ | ⟨a,rfl,e,rfl,rfl⟩ | ⟨b,off,len,cap,off',cap',rfl,e,h3,h4,h5,h6⟩
 ·cases e; exact .inl ⟨rfl,by simp⟩
 ·cases e; exact .inr (.inl ⟨a,rfl,by simp⟩)
 ·cases e
  rcases h with ⟨h,_⟩ | ⟨b',e1,rfl⟩ | ⟨b',off1,cap1,c,el,fr,e1,e2,e3,e4,e5⟩
  ·simp at h
  ·simp only [Value.slice.injEq] at e1
   obtain ⟨_,rfl,rfl⟩:=e1
   have:hi=0:=by simpa using h2
   subst this
   obtain rfl:cap'=0:=by omega
   exact .inr (.inl ⟨⟨b,off',none⟩,by rw [Nat.zero_sub],by simp⟩)
  ·simp only [Value.slice.injEq,Ytu,Addr.mk.injEq,and_true] at e1
   obtain ⟨⟨rfl,rfl⟩,rfl,rfl⟩:=e1
   have hlen:((xs.take hi).drop lo).length=hi - lo:=by simp [Nat.min_eq_left h2]
   refine .inr (.inr ⟨b,off',cap',c,el,fr,by rw [hlen],e2,by rw [hlen]; exact h5,by omega,?_⟩)
   rw [hlen]
   by_cases hlt:lo < hi
   ·have:=RepL.drop hR lo (RepL.take hR hi e5)
    rw [h3 hlt]
    have e7:hi*t.size=lo*t.size+(hi - lo)*t.size:=by rw [<-Nat.add_mul]; congr 1; omega
    have e8:hi*t.size<=xs.length*t.size:=YTu _ h2
    have e9:((Yl c off (xs.length*t.size)).take (hi*t.size)).drop (lo*t.size)=Yl c (off+lo*t.size) ((hi - lo)*t.size):=by
     rw [List.drop_take,show hi*t.size - lo*t.size=(hi - lo)*t.size by omega]
     exact YH8 _ (by omega)
    rw [<-e9]; exact this
   ·have:(xs.take hi).drop lo=[]:=YPu (by simp; omega)
    rw [this]
    have e0:(hi - lo)*t.size=0:=by rw [show hi - lo=0 by omega]; simp
    rw [e0]
    simp [RepL,Yl]
theorem Yua {Y:List Nat} (h:Rel w0 X0 fz m Y s a w) {t:Ty} {p:PV} {v:Value} (hv:RepS w fz m s p v) {xs:List t.den} (he:s.elems t p=some xs):t.pure=true/\SliceAt w fz t xs v\/xs=[]/\v=.slice none 0 0:=by
 cases p with
 | val u x=>
  cases u with
  | sl o u=>
   simp only [St.elems] at he
   obtain ⟨e,rfl⟩:=Ty.cast_some he
   cases e
   obtain ⟨cs,hp1,hp2,rfl⟩:=hv.reads
   simp only [Ty.pure,Ylu] at hp1
   obtain ⟨v',rfl⟩:∃ v',cs=[v']:=List.length_eq_one_iff.1 (by rw [hp2.length]; rfl)
   exact .inl ⟨hp1.2,hp2.sliceAt hp1.2⟩
  | _=> simp [St.elems] at he
 | nils=>
  simp only [St.elems,Ytu] at he
  subst he
  exact .inr ⟨rfl,hv.nils⟩
 | row r=>
  obtain ⟨cs,⟨rfl,hp2,hp3⟩,rfl⟩:=hv
  cases hr:s.rows r with
  | none=> exact absurd hr hp3
  | mk u o ys=>
   simp only [St.elems,hr] at he
   have ho:o≠.dead:=by rintro rfl; simp at he
   have hu:u.pure=true:=by cases o <;> cases hu:u.pure <;> simp [hu] at he <;> rfl
   have he':Ty.cast (.sl false u) (.sl false t) ys=some xs:=by cases o <;> simp [hu] at he <;> exact he
   obtain ⟨e,rfl⟩:=Ty.cast_some he'
   cases e
   obtain ⟨q,X,hrep⟩:=h.rowAny hr ho
   exact .inl ⟨hu,hrep.sliceAt hu⟩
 | part r lo hi=>
  obtain ⟨cs,⟨u,o,ys,hr,h1,h2,h3⟩,rfl⟩:=hv
  simp only [St.elems,hr] at he
  have ho:o≠.dead:=by rintro rfl; simp at he
  have hu:u.pure=true:=by cases o <;> cases hu:u.pure <;> simp [hu] at he <;> rfl
  have he':Ty.cast (.sl false u) (.sl false t) ((ys.take hi).drop lo)=some xs:=by cases o <;> simp [hu] at he <;> exact he
  obtain ⟨e,rfl⟩:=Ty.cast_some he'
  cases e
  obtain ⟨q,X,hrep⟩:=h.rowAny hr ho
  obtain ⟨v',rfl⟩:∃ v',cs=[v']:=by
   rcases h3 with ⟨_,rfl,_⟩ | ⟨_,_,rfl,_⟩ | ⟨_,_,_,_,_,_,_,rfl,_⟩ <;> exact ⟨_,rfl⟩
  exact .inl ⟨hu,(hrep.sliceAt hu).part hu h1 h2 h3⟩
 | bpart b path lo hi=>
  obtain ⟨cs,⟨T,o,c,n,u,hb,h1,h2,h3,h4,off',cap',rfl,h6,h7,h8⟩,rfl⟩:=hv
  simp only [St.elems,hb] at he
  have hod:o≠.dead:=by intro e; subst e; simp at he
  obtain ⟨cs',el,fr,g1,g2,g3,g4,g5,g6⟩:=h.boxes b T o c hb hod
  obtain ⟨k1,k2⟩:=RepP.get h1 g2 g3
  have he':∃ n' x,c.get path=.val (.arr n' t) x/\xs=(List.take hi x).drop lo:=by
   cases o with
   | dead=> exact absurd rfl hod
   | _=>
    simp only at he
    split at he
    ·rename_i n' u' x hx
     obtain ⟨e,rfl⟩:=Ty.cast_some he
     cases e
     exact ⟨n',x,hx,rfl⟩
    ·cases he
  obtain ⟨n',x,hx,rfl⟩:=he'
  rw [hx] at k1 k2
  rw [YU,h2] at k2
  simp only [Ty.same,Ylu] at k2
  have hn:=YOu k2.1
  subst hn
  have hs:=Ty.same_size k2.2
  obtain ⟨k3,k4,k5⟩:=k1
  have hpure:t.pure=true:=k3
  have hR:∀ x cs X,Rep w fz t x cs X->cs.length=t.size/\X=[]:=fun x cs X h=> ⟨Rep.length t h,Rep.pure t hpure h⟩
  have hoff:=Ty.off_le h1
  rw [h2] at hoff k5
  have hT:cs'.size=T.size:=by
   have:=RepP.size g2
   rw [(YW g3).2] at this
   simpa using this
  refine .inl ⟨hpure,?_⟩
  have hlen:((List.take hi x).drop lo).length=hi - lo:=by simp [k4,Nat.min_eq_left h4]
  refine .inr (.inr ⟨m.γ b,off',cap',cs',el,fr,by rw [hlen]; rfl,g1,by rw [hlen]; exact h8,?_,?_⟩)
  ·have:(Ty.arr n u).size=n*u.size:=rfl
   rw [this,hs.1] at hoff
   rw [hs.1] at h7
   omega
  ·rw [hlen]
   by_cases hlt:lo < hi
   ·have:=RepL.drop hR lo (RepL.take hR hi k5)
    have e7:hi*t.size=lo*t.size+(hi - lo)*t.size:=by rw [<-Nat.add_mul]; congr 1; omega
    have e8:hi*t.size<=n*t.size:=YTu _ h4
    have e9:((List.take (Ty.arr n u).size (List.drop (T.off path) cs'.toList)).take (hi*t.size)).drop (lo*t.size)=Yl cs' off' ((hi - lo)*t.size):=by
     rw [List.drop_take,show hi*t.size - lo*t.size=(hi - lo)*t.size by omega,h6 hlt,hs.1]
     exact YR5 _ _ _ _ _ (by show _<=n*u.size; rw [hs.1]; omega)
    rw [<-e9]
    exact this
   ·have:(List.take hi x).drop lo=[]:=YPu (by simp; omega)
    rw [this]
    have e0:(hi - lo)*t.size=0:=by rw [show hi - lo=0 by omega]; simp
    rw [e0]
    simp [RepL,Yl]
 | _=> simp [St.elems] at he
def YG4 (P:Program) (w:World) (fz:Nat->Prop) (t:Ty) (x:Value) (zs:List t.den):Prop:=
 (Builtin.lenOf x).run P w=.ok zs.length w/\∀ k,k<=zs.length->∃ cells,(∀ d,(Builtin.firstCells t.size k x).run P { w with drawn:=d }=.ok cells { w with drawn:=d })/\RepL (Rep w fz t) (zs.take k) cells.toList []
theorem SliceAt.tail {P:Program} {t:Ty} (ht:t.pure=true) {xs:List t.den} {v:Value} (h:SliceAt w fz t xs v):YG4 P w fz t v xs:=by
 have hR:∀ x cs X,Rep w fz t x cs X->cs.length=t.size/\X=[]:=fun x cs X h=> ⟨Rep.length t h,Rep.pure t ht h⟩
 rcases h with ⟨rfl,rfl⟩ | ⟨b,rfl,rfl⟩ | ⟨b,off,cap,c,el,fr,rfl,h1,h2,h3,h4⟩
 ·exact ⟨rfl,fun k hk=> ⟨#[],fun _=> rfl,by simp [RepL]⟩⟩
 ·refine ⟨rfl,fun k hk=> ⟨#[],fun d=> ?_,by simp [RepL]⟩⟩
  obtain rfl:k=0:=by simpa using hk
  have:=run_loadCells_list (P:=P) { w with drawn:=d } b [] (fun j v hj=> by simp at hj)
  simpa [Builtin.firstCells] using this
 ·refine ⟨rfl,fun k hk=> ?_⟩
  have hin:k*t.size<=xs.length*t.size:=YTu _ hk
  have hin2:xs.length*t.size<=cap*t.size:=YTu _ h2
  refine ⟨_,fun d=> Yk6 (w:={ w with drawn:=d }) h1 (by omega),?_⟩
  have:=RepL.take hR k h4
  rw [show (Yl c off (xs.length*t.size)).take (k*t.size)=Yl c off (k*t.size) by rw [Yl,List.take_take,Nat.min_eq_left hin]; rfl] at this
  exact this
theorem Yfe (l:List UInt8):RepL (Rep w fz (.int .u8)) (YL l) (l.map fun b=> .int .u8 (b.toNat:Int)) []:=by
 induction l with
 | nil=> exact ⟨rfl,rfl⟩
 | cons b l ih=> exact ⟨[_],_,[],[],rfl,rfl,⟨rfl,rfl⟩,ih⟩
theorem Yr6 {P:Program} {Y:List Nat} (h:Rel w0 X0 fz m Y s a w) {t:Ty} {p:PV} {v:Value} (hv:RepS w fz m s p v) {xs:List t.den} (he:s.tail t p=some xs):YG4 P w fz t v xs:=by
 have other:s.elems t p=some xs->YG4 P w fz t v xs:=fun he=> by
  rcases Yua h hv he with ⟨h1,h2⟩ | ⟨rfl,rfl⟩
  ·exact h2.tail h1
  ·exact ⟨rfl,fun k hk=> ⟨#[],fun _=> rfl,by simp [RepL]⟩⟩
 unfold St.tail at he
 split at he
 ·rename_i l
  obtain ⟨e,rfl⟩:=Ty.cast_some he
  cases e
  have:=hv.str; subst this
  refine ⟨by simp [Builtin.lenOf,YL,YL2],fun k hk=> ⟨_,fun _=> rfl,?_⟩⟩
  have:=Yfe (w:=w) (fz:=fz) (l.take k)
  simp only [YL,List.map_take] at this ⊢
  simpa [ByteArray.data_extract,List.extract_eq_take_drop] using this
 ·exact other he
end
end Go.Abs
