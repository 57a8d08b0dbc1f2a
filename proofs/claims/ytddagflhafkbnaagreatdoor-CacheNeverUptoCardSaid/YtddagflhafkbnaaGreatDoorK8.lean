/- Part K8 of the proof: see the last text of the claim. No condition of its own. -/
import Derived.Test.YtddagflhafkbnaaGreatDoorK7
import Derived.Test.YtddagflhafkbnaaGreatDoorK1
import Derived.Lib.Bytealg
import Derived.Lib.Index
import Derived.Lib.Join
import Derived.Lib.ItoaNum
import Derived.Lib.SpaceU
import Derived.Below
import Derived.Sort.Grow
import Derived.Lib.LaidTab
import Derived.Shelf.Unicode.DecodeSlow
import Derived.ChangeArms
import Derived.ChangeOld
import Derived.ChangeMaps5
import Derived.LaidLaws
import Derived.ChangeSame
import Derived.Carry
import Derived.Shelf.Vars
set_option linter.all false
set_option autoImplicit false
namespace Go.Abs
def Yx7:Value->Value->Bool
 | .int j a,.int k b=> (Y93 j k).isSome&&decide (a=b)
 | .bool a,.bool b=> (Ye9 a b).isSome
 | .string a,.string b=> a.data.toList.isEmpty&&b.data.toList.isEmpty
 | .slice none 0 0,.slice none 0 0=> true
 | .pointer none,.pointer none=> true
 | .nilFunc,.nilFunc=> true
 | _,_=> false
def Yy7:List Value->List Value->Bool
 | [],[]=> true
 | a::l,b::m=> Yx7 a b&&Yy7 l m
 | _,_=> false
def Y4c:Value->Bool->List Value->Bool
 | .agg cs,true,l=> Yy7 cs.toList l
 | _,true,_=> false
 | v,false,[c]=> Yx7 v c
 | _,_,_=> false
theorem Yxf {a b:Value} (h:Yx7 a b=true):a=b:=by
 unfold Yx7 at h
 split at h
 ·rename_i j a k b
  simp only [Ylu,Yxu] at h
  cases e:Y93 j k with
  | none=> rw [e] at h; cases h.1
  | some p=> rw [p.down,h.2]
 ·rename_i a b
  cases e:Ye9 a b with
  | none=> rw [e] at h; cases h
  | some p=> rw [p.down]
 ·rename_i a b
  simp only [Ylu,List.isEmpty_iff] at h
  obtain ⟨⟨a⟩⟩:=a
  obtain ⟨⟨b⟩⟩:=b
  have h1:a=[]:=h.1
  have h2:b=[]:=h.2
  rw [h1,h2]
 ·rfl
 ·rfl
 ·rfl
 ·cases h
theorem Yzf:∀ {l m:List Value},Yy7 l m=true->l=m
 | [],[],_=> rfl
 | a::l,b::m,h=> by
  simp only [Yy7,Ylu] at h
  rw [Yxf h.1,Yzf h.2]
 | [],_::_,h=> by cases h
 | _::_,[],h=> by cases h
theorem Ycu {v:Value} {agg:Bool} {l:List Value} (h:Y4c v agg l=true):v=mkV agg l:=by
 unfold Y4c at h
 split at h
 ·rename_i cs
  have:=Yzf h
  subst this
  rfl
 ·cases h
 ·exact Yxf h
 ·cases h
def Y42 (P:Program) (T:Ty) (t:TypeId):Bool:=match P.info? t with
 | some i=> Nat.beq i.size T.size&&(Nat.ble i.bytes 4096&&match i.zero with
  | some z=> Y4c z T.isAgg (zeroCells T)
  | none=> false)
 | none=> false
theorem YD3 {P:Program} {T:Ty} {t:TypeId} (h:Y42 P T t=true):Info P T t:=by
 unfold Y42 at h
 split at h
 ·rename_i i hi
  simp only [Ylu] at h
  obtain ⟨h1,h2,h3⟩:=h
  split at h3
  ·rename_i z hz
   exact ⟨i,hi,YOu h1,by rw [hz,Ycu h3],Nat.le_of_ble_eq_true h2⟩
  ·cases h3
 ·cases h
def YW1 (T:Ty) (ok:TypeId->Bool) (fs:List Field) (off:Nat):Bool:=match fs with
 | [f]=> Nat.beq f.offset off&&(Nat.ble 1 T.size&&ok f.type)
 | _=> false
theorem Yqr {T:Ty} {ok:TypeId->Bool} {ok':TypeId->Prop} (h:∀ t,ok t=true->ok' t) {fs:List Field} {off:Nat} (g:YW1 T ok fs off=true):Yp1 T ok' fs off:=by
 unfold YW1 at g
 split at g
 ·rename_i f
  simp only [Ylu] at g
  exact ⟨f,rfl,YOu g.1,Nat.le_of_ble_eq_true g.2.1,h _ g.2.2⟩
 ·cases g
def tyB (P:Program):Ty->(TypeId->Bool)×(List Field->Nat->Bool)
 | .pair a b=> (fun _=> false,fun fs off=> match fs with
  | f::g::l=> Nat.beq f.offset off&&(Nat.ble 1 a.size&&((tyB P a).1 f.type&&(tyB P b).2 (g::l) (off+a.size)))
  | _=> false)
 | .unit=> (fun _=> false,fun fs _=> fs.isEmpty)
 | .st a=>
  let ok:=fun t=> Y42 P (.st a) t&&match P.underlying t with
   | some (.struct fs)=> (tyB P a).2 fs.toList 0
   | _=> false
  (ok,YW1 (.st a) ok)
 | .arr n a=>
  let ok:=fun t=> Y42 P (.arr n a) t&&match P.underlying t with
   | some (.array m e)=> Nat.beq m n&&(tyB P a).1 e
   | _=> false
  (ok,YW1 (.arr n a) ok)
 | .sl o a=>
  let ok:=fun t=> Y42 P (.sl o a) t&&match P.underlying t with
   | some (.slice e)=> (tyB P a).1 e
   | _=> false
  (ok,YW1 (.sl o a) ok)
 | .int k=>
  let ok:=fun t=> Y42 P (.int k) t&&match P.underlying t with
   | some (.int j)=> (Y93 j k).isSome
   | _=> false
  (ok,YW1 (.int k) ok)
 | .bool=>
  let ok:=fun t=> Y42 P .bool t&&match P.underlying t with
   | some .bool=> true
   | _=> false
  (ok,YW1 .bool ok)
 | .str=>
  let ok:=fun t=> Y42 P .str t&&match P.underlying t with
   | some .string=> true
   | _=> false
  (ok,YW1 .str ok)
 | .ptr a=>
  let ok:=fun t=> Y42 P (.ptr a) t&&match P.underlying t with
   | some (.pointer _)=> true
   | _=> false
  (ok,YW1 (.ptr a) ok)
 | .rptr a=>
  let ok:=fun t=> Y42 P (.rptr a) t&&match P.underlying t with
   | some (.pointer _)=> true
   | _=> false
  (ok,YW1 (.rptr a) ok)
 | .optr a=>
  let ok:=fun t=> Y42 P (.optr a) t&&match P.underlying t with
   | some (.pointer _)=> true
   | _=> false
  (ok,YW1 (.optr a) ok)
 | .nilp=>
  let ok:=fun t=> Y42 P .nilp t&&match P.underlying t with
   | some (.pointer _)=> true
   | _=> false
  (ok,YW1 .nilp ok)
 | .clo f n a=>
  let ok:=fun t=> Y42 P (.clo f n a) t&&match P.underlying t with
   | some (.func _ _ _)=> true
   | _=> false
  (ok,YW1 (.clo f n a) ok)
theorem Yni {P:Program} (T:Ty):(∀ t,(tyB P T).1 t=true->(Y21 P T).1 t)/\(∀ fs off,(tyB P T).2 fs off=true->(Y21 P T).2 fs off):=by
 have both:∀ {T:Ty} {ok:TypeId->Bool} {ok':TypeId->Prop},(∀ t,ok t=true->ok' t)->(tyB P T)=(ok,YW1 T ok)->Y21 P T=(ok',Yp1 T ok')->
   (∀ t,(tyB P T).1 t=true->(Y21 P T).1 t)/\(∀ fs off,(tyB P T).2 fs off=true->(Y21 P T).2 fs off):=by
  intro T ok ok' h e1 e2
  rw [e1,e2]
  exact ⟨h,fun fs off g=> Yqr h g⟩
 induction T with
 | pair a b iha ihb=>
  refine ⟨fun t h=> (by cases h),fun fs off h=> ?_⟩
  simp only [tyB] at h
  split at h
  ·rename_i f g l
   simp only [Ylu] at h
   exact ⟨f,g,l,rfl,YOu h.1,Nat.le_of_ble_eq_true h.2.1,iha.1 _ h.2.2.1,ihb.2 _ _ h.2.2.2⟩
  ·cases h
 | unit=> exact ⟨fun t h=> (by cases h),fun fs off h=> List.isEmpty_iff.1 h⟩
 | st a ih=>
  refine both (fun t h=> ?_) rfl rfl
  simp only [Ylu] at h
  refine ⟨YD3 h.1,?_⟩
  have h2:=h.2
  split at h2
  ·rename_i fs hu; exact ⟨fs,hu,ih.2 _ _ h2⟩
  ·cases h2
 | arr n a ih=>
  refine both (fun t h=> ?_) rfl rfl
  simp only [Ylu] at h
  refine ⟨YD3 h.1,?_⟩
  have h2:=h.2
  split at h2
  ·rename_i m e hu
   simp only [Ylu] at h2
   have:=YOu h2.1
   subst this
   exact ⟨e,hu,ih.1 _ h2.2⟩
  ·cases h2
 | sl o a ih=>
  refine both (fun t h=> ?_) rfl rfl
  simp only [Ylu] at h
  refine ⟨YD3 h.1,?_⟩
  have h2:=h.2
  split at h2
  ·rename_i e hu; exact ⟨e,hu,ih.1 _ h2⟩
  ·cases h2
 | int k=>
  refine both (fun t h=> ?_) rfl rfl
  simp only [Ylu] at h
  refine ⟨YD3 h.1,?_⟩
  have h2:=h.2
  split at h2
  ·rename_i j hu
   cases e:Y93 j k with
   | none=> rw [e] at h2; cases h2
   | some p=> rw [hu,p.down]
  ·cases h2
 | bool=>
  refine both (fun t h=> ?_) rfl rfl
  simp only [Ylu] at h
  refine ⟨YD3 h.1,?_⟩
  have h2:=h.2
  split at h2
  ·rename_i hu; exact hu
  ·cases h2
 | str=>
  refine both (fun t h=> ?_) rfl rfl
  simp only [Ylu] at h
  refine ⟨YD3 h.1,?_⟩
  have h2:=h.2
  split at h2
  ·rename_i hu; exact hu
  ·cases h2
 | clo f n a _=>
  refine both (fun t h=> ?_) rfl rfl
  simp only [Ylu] at h
  refine ⟨YD3 h.1,?_⟩
  have h2:=h.2
  split at h2
  ·rename_i ps rs v hu; exact ⟨ps,rs,v,hu⟩
  ·cases h2
 | _=>
  refine both (fun t h=> ?_) rfl rfl
  simp only [Ylu] at h
  refine ⟨YD3 h.1,?_⟩
  have h2:=h.2
  split at h2
  ·rename_i e hu; exact ⟨e,hu⟩
  ·cases h2
theorem YTg {α:Type} {n:Nat} {x:α}:∀ {l:List (Nat×α)},YH3 n l=some x->(n,x)∈l
 | [],h=> by cases h
 | (m,y)::l,h=> by
  simp only [YH3,Yc2] at h
  by_cases e:n=m
  ·rw [Yku e] at h; cases h; subst e; simp
  ·rw [Yju e] at h; exact Y0v _ (YTg h)
def fnB (P:Program) (f:FuncId):Bool:=match P.funcs[f]? with
 | some fn => fn.body.isSome && !(fn.name == "runtime.NumGoroutine")
 | none=> false
theorem Yhq {E:Env} (tyTab:List (Nat×Ty)) (eqTab goTab:List Nat) (hm:E.P.follows .mixedOrders=true) (h1:∀ t,E.ty t=YH3 t tyTab) (h2:tyTab.all (fun x=> (tyB E.P x.2).1 x.1)=true)
  (h3:∀ t,E.elem t=match E.P.underlying t with | some (.slice e)=> some e | _=> none) (h4:∀ t,E.nf t=match E.P.underlying t with | some (.struct fs)=> fs.size | _=> 0)
  (h5:∀ t,E.eqs t=eqTab.any (Nat.beq t)) (h6:eqTab.all (fun t=> E.P.keyTypeAt 20 t&&!E.P.eqGuardType E.P.depth t)=true)
  (h7:∀ f,E.goes f=goTab.any (Nat.beq f)) (h8:goTab.all (fnB E.P)=true) (h9:∀ f ps,E.goes f=true->E.code (E.vary f ps)=f) (h10:∀ N G,E.grd N=some G->GuardOK E G:=by intro _ _ h; cases h):EnvOK E:=by
 refine ⟨hm,fun t T h=> ?_,fun t e h=> ?_,fun t fs h=> ?_,fun t h=> ?_,fun f h=> ?_,h10⟩
 ·rw [h1] at h
  have:=Y3v.1 h2 _ (YTg h)
  exact (Yni T).1 t this
 ·rw [h3] at h
  split at h
  ·rename_i e' hu; cases h; exact hu
  ·cases h
 ·rw [h4,h]
 ·rw [h5,List.any_eq_true] at h
  obtain ⟨k,hk,e⟩:=h
  have:=YOu e
  subst this
  have:=Y3v.1 h6 _ hk
  simp only [Ylu,YXu] at this
  exact this
 ·refine ⟨?_,fun ps=> h9 f ps h⟩
  rw [h7,List.any_eq_true] at h
  obtain ⟨k,hk,e⟩:=h
  have:=YOu e
  subst this
  have:=Y3v.1 h8 _ hk
  unfold fnB at this
  split at this
  ·rename_i fn hf
   simp only [Ylu,YXu] at this
   refine ⟨fn,hf,?_,this.2⟩
   cases hb:fn.body with
   | none=> rw [hb] at this; cases this.1
   | some c=> rfl
  ·cases this
end Go.Abs
namespace Go.Abs
def YB2 (x:List UInt8×Int):Option Int:=some (Lib.indexByte x.1 (UInt8.ofNat x.2.toNat))
def Yl2 (x:List UInt8×List UInt8):Option Int:=bif decide (x.1.length < 4294967281) then some (Lib.index x.1 x.2) else none
def Yx4 (x:List (List UInt8)×List UInt8):Option (List UInt8):=bif decide (x.1.length<=140737488355328)&&decide ((Lib.join x.1 x.2).length<=140737488355328) then some (Lib.join x.1 x.2) else none
def Yv4 (s:List UInt8):Option (Int×Int):=bif decide (s.length<=9223372036854775807) then some ((((Lib.decodeLastL s).1:Nat):Int),(((Lib.decodeLastL s).2:Nat):Int)) else none
def Yk5 (s:List UInt8):Option (Int×Int):=some (bif s.isEmpty then (65533,0) else ((((Yx s 0).1:Nat):Int),(((Yx s 0).2:Nat):Int)))
def Yw4 (x:List Int×(Int×List Int)):Option (List Int):=
 bif decide (0<=x.2.1)&&(decide (x.2.1<=x.1.length)&&(decide (x.2.2.length=1)&&decide (x.1.length<=4294967296))) then some (x.1.take x.2.1.toNat++x.2.2++x.1.drop x.2.1.toNat) else none
def Yy4 (s:List UInt8):Option (Int×Bool):=
 bif decide (s.length<=140737488355328) then some (bif s==[104,116,116,112] then (80,true) else bif s==[104,116,116,112,115] then (443,true) else bif s==[119,115] then (80,true) else bif s==[119,115,115] then (443,true) else bif s==[102,116,112] then (21,true) else (0,false)) else none
def YN3 {α:Type} (x:List α×(Int×Int)):Option (List α):=
 bif decide (0<=x.2.1)&&(decide (x.2.1<=x.2.2)&&(decide (x.2.2<=x.1.length)&&decide (x.1.length<=4294967296))) then some (x.1.take x.2.1.toNat++x.1.drop x.2.2.toNat) else none
def YM3 (x:List Int):Option (List Int):=bif decide (x.length<=4294967296) then some x else none
def Yp4:Nat->List (Nat×List (List Nat×Nat))->List (List Nat×Nat)
 | _,[]=> []
 | f,(g,l)::r=> bif Nat.beq f g then l else Yp4 f r
end Go.Abs
namespace Go.Abs
theorem Yy6 (E:Env) {k:Nat} {f:FuncId} {x:(E.sig f).arg.den} {y:(E.sig f).Out} (h:Yr2 E (run E k) f x=some y):Call E f x=some y:=by
 obtain ⟨n,hn⟩:=YI7 E (J:=run E k) (J':=fun _=> Run E) (fun N r s v hr=> ⟨0,fun _ _=> YV8 E hr⟩) f x y h
 exact hn n (Nat.le_refl _)
end Go.Abs
namespace Go.Abs
def YW2 (E:Env) (S:Sig) (c:FuncId) (x:S.arg.den) (y:S.Out):Prop:=
 ∀ (w:World) (fz:Nat->Prop) (vs:List Value) (X:List Nat),RepArgs w fz S.args x vs X->X.Nodup->(∀ b∈X,b < w.heap.size/\¬fz b)->(∀ b,fz b->b < w.heap.size)->Glob E w fz->
  Calls E.P c vs.toArray w fun e w'=> Keep w X w'/\∃ fz',FzOk w X fz fz' w'/\
   YX1 S y (fun i t z=> ∃ cs,e=.panicked [{ v:=.iface i (mkV t.isAgg cs),recovered:=false }]/\t.pure=true/\Rep w' fz' t z cs [])
    (fun z=> ∃ rs X',e=.returned (retV rs)/\RepOuts w' fz' S.res S.backs z rs (YI2 S.args vs) X'/\X'.Nodup/\∀ b∈X',b < w'.heap.size/\¬fz' b/\(b∈X\/w.heap.size<=b))
theorem Y36 {w w':World} {X:List Nat} (h:RowKit.Below w.heap.size w w'):Keep w X w':=⟨h.os,h.tape,h.output,h.size,fun b hb _=> h.block b hb⟩
theorem Yg2 {w w':World} {X:List Nat} {fz:Nat->Prop} (hz:∀ b,fz b->b < w.heap.size) (h:w.heap.size<=w'.heap.size):FzOk w X fz fz w':=
 ⟨fun _ h=> h,fun b hb=> ⟨Nat.lt_of_lt_of_le (hz b hb) h,.inl hb⟩⟩
theorem Glob.ints {E:Env} {w:World} {fz:Nat->Prop} (h:Glob E w fz) {g n:Nat} {k:IntKind} {xs:List Int} (hm:(g,(⟨.arr n (.int k),xs⟩:Σ t:Ty,t.den))∈E.gl):
  ∃ el fr,w.heap[g]? =some (.cells (xs.map (Value.int k)).toArray el fr):=by
 obtain ⟨_,_,c,el,fr,hc,_,hr⟩:=h.tab g _ _ hm
 have key:∀ (xs:List Int) (cs:List Value),RepL (Rep w fz (.int k)) xs cs []->cs=xs.map (Value.int k):=by
  intro xs
  induction xs with
  | nil=> intro cs h; exact h.1
  | cons x xs ih=>
   rintro cs ⟨c1,c2,X1,X2,rfl,hX,⟨h1,_⟩,h2⟩
   obtain ⟨rfl,rfl⟩:=List.nil_eq_append_iff.1 hX
   rw [h1,ih _ h2]; rfl
 refine ⟨el,fr,?_⟩
 rw [hc,<-key xs _ hr]
theorem Ysr {g:Sig->Type} {f:Nat} {d:Σ s:Sig,Option (g s)} (l:List (Nat×(Σ s:Sig,Option (g s)))) (hd:d.2.isSome=false) (h:(YI3 d f l).2.isSome=true):(f,YI3 d f l)∈l/\(YI3 d f l).2.isSome=true:=by
 refine ⟨?_,h⟩
 induction l with
 | nil=> rw [YI3,hd] at h; cases h
 | cons x l ih=>
  obtain ⟨m,x⟩:=x
  simp only [YI3] at h ⊢
  cases e:Nat.beq f m with
  | true=>
   obtain rfl:=YOu e
   exact .head _
  | false=> rw [e] at h; exact .tail _ (ih h)
theorem Ynt {E:Env} {c:FuncId} (hc:∀ (s:ByteArray) (n:Int) (w:World),Calls E.P c #[.string s,.int .u8 n] w fun e w'=> e=.returned (.int .i64 (Lib.indexByte s.data.toList n.toNat.toUInt8))/\w'=w)
  (x:List UInt8×Int) (y:Int) (h:YB2 x=some y):YW2 E ⟨[.str,.int .u8],[.int .i64],none⟩ c x y:=by
 rintro w fz vs X ⟨cs,us,X1,X2,rfl,rfl,⟨rfl,rfl⟩,cs',rfl,rfl,rfl⟩ _ _ hz _
 refine (hc _ _ w).mono ?_
 rintro e w' ⟨rfl,rfl⟩
 refine ⟨Y36 (RowKit.Below.refl _ _),fz,Yg2 hz (Nat.le_refl _),[.int .i64 y],[],?_,⟨rfl,_,rfl,rfl,rfl⟩,List.nodup_nil,by simp⟩
 obtain rfl:=Option.some.inj h
 rfl
theorem Y5i {E:Env} {c:FuncId} (g:Nat) (hg:(g,IntKind.i64)∈E.ints)
  (hc:∀ (s sub:ByteArray) (m:Int) (w:World),s.size < 4294967281->w.cell? ⟨g,0,none⟩=some (.int .i64 m)->Calls E.P c #[.string s,.string sub] w fun e w'=> e=.returned (.int .i64 (Lib.index s.data.toList sub.data.toList))/\w'=w)
  (x:List UInt8×List UInt8) (y:Int) (h:Yl2 x=some y):YW2 E ⟨[.str,.str],[.int .i64],none⟩ c x y:=by
 rintro w fz vs X ⟨cs,us,X1,X2,rfl,rfl,⟨rfl,rfl⟩,cs',rfl,rfl,rfl⟩ _ _ hz hG
 obtain ⟨_,m,hm⟩:=hG.num g _ hg
 unfold Yl2 at h
 cases hd:decide (x.1.length < 4294967281) with
 | false=> rw [hd] at h; cases h
 | true=>
  rw [hd,Ygu] at h
  refine (hc ⟨x.1.toArray⟩ ⟨x.2.toArray⟩ m w (by simpa [ByteArray.size] using YQu hd) hm).mono ?_
  rintro e w' ⟨rfl,rfl⟩
  refine ⟨Y36 (RowKit.Below.refl _ _),fz,Yg2 hz (Nat.le_refl _),[.int .i64 y],[],?_,⟨rfl,_,rfl,rfl,rfl⟩,List.nodup_nil,by simp⟩
  obtain rfl:=Option.some.inj h
  rfl
theorem Y8u {b off:Nat} {w:World} {c:Array Value} {el:TypeId} {fr:Nat×Nat} {n:Nat} (h:w.heap[b]? =some (.cells c el fr)) {xs:List (List UInt8)} {fz:Nat->Prop} (hr:RepL (Rep w fz .str) xs (Yl c off n) []) (hn:n=xs.length):
  ∀ (j:Nat) x,(xs.map fun s=> (⟨s.toArray⟩:ByteArray))[j]? =some x->w.cell? ⟨b,off+j,none⟩=some (.string x):=by
 have key:∀ (xs:List (List UInt8)) (cs:List Value),RepL (Rep w fz .str) xs cs []->cs=xs.map fun s=> Value.string ⟨s.toArray⟩:=by
  intro xs
  induction xs with
  | nil=> intro cs h; exact h.1
  | cons x xs ih=>
   rintro cs ⟨c1,c2,X1,X2,rfl,hX,⟨h1,_⟩,h2⟩
   obtain ⟨rfl,rfl⟩:=List.nil_eq_append_iff.1 hX
   rw [h1,ih _ h2]; rfl
 intro j x hx
 have hw:=key _ _ hr
 rw [List.getElem?_map,YKu] at hx
 obtain ⟨s,hs,rfl⟩:=hx
 have hj:j < n:=by rw [hn]; exact (List.getElem?_eq_some_iff.1 hs).1
 have h1:(Yl c off n)[j]? =some (Value.string ⟨s.toArray⟩):=by rw [hw,List.getElem?_map,hs]; rfl
 unfold Yl at h1
 rw [List.getElem?_take_of_lt hj,List.getElem?_drop,Y4v] at h1
 simp [World.cell?,h,h1]
theorem Ypt {E:Env} {c:FuncId}
  (h0:∀ (a:Option Addr) (n:Nat) (sep:ByteArray) (w:World),Calls E.P c #[.slice a 0 n,.string sep] w fun e w'=> e=.returned (.string ⟨#[]⟩)/\w'=w)
  (hc:∀ (bk o n:Nat) (xs:List ByteArray) (sep:ByteArray) (w:World),(∀ (j:Nat) x,xs[j]? =some x->w.cell? ⟨bk,o+j,none⟩=some (.string x))->bk < w.heap.size->xs.length<=140737488355328->xs.length<=n->
   (Lib.join (xs.map (·.data.toList)) sep.data.toList).length<=140737488355328->Calls E.P c #[.slice (some ⟨bk,o,none⟩) xs.length n,.string sep] w fun e w'=> e=.returned (.string ⟨(Lib.join (xs.map (·.data.toList)) sep.data.toList).toArray⟩)/\RowKit.Below w.heap.size w w')
  (x:List (List UInt8)×List UInt8) (y:List UInt8) (h:Yx4 x=some y):YW2 E ⟨[.sl false .str,.str],[.str],none⟩ c x y:=by
 rintro w fz vs X ⟨cs,us,X1,X2,rfl,rfl,hr,cs',rfl,rfl,rfl⟩ _ _ hz _
 obtain ⟨xs,sep⟩:=x
 unfold Yx4 at h
 cases hd:decide (xs.length<=140737488355328)&&decide ((Lib.join xs sep).length<=140737488355328) with
 | false=> rw [hd] at h; cases h
 | true=>
  rw [hd,Ygu] at h
  obtain rfl:=Option.some.inj h
  rw [Ylu,decide_eq_true_iff,decide_eq_true_iff] at hd
  have fin:∀ (X1:List Nat),X1=[]->∀ e w',e=Ending.returned (.string ⟨(Lib.join xs sep).toArray⟩)->RowKit.Below w.heap.size w w'->
    Keep w (X1++[]) w'/\∃ fz',FzOk w (X1++[]) fz fz' w'/\∃ rs X',e=.returned (retV rs)/\RepOuts w' fz' [.str] [] (Lib.join xs sep) rs [] X'/\X'.Nodup/\∀ b∈X',b < w'.heap.size/\¬fz' b/\(b∈(X1++[])\/w.heap.size<=b):=by
   rintro _ rfl e w' rfl hb
   exact ⟨Y36 hb,fz,Yg2 hz hb.size,[.string ⟨(Lib.join xs sep).toArray⟩],[],rfl,⟨rfl,_,rfl,rfl,rfl⟩,List.nodup_nil,by simp⟩
  rcases hr with ⟨rfl,hx,rfl⟩ | ⟨b,off,cap,c',el,fr,X',rfl,hb,hlc,hle,hl,hf⟩ | ⟨_,b,rfl,hx,rfl⟩
  rotate_right
  ·obtain rfl:xs=[]:=hx
   refine (h0 (some b) 0 ⟨sep.toArray⟩ w).mono ?_
   rintro e w' ⟨rfl,rfl⟩
   exact fin [] rfl _ _ rfl (RowKit.Below.refl _ _)
  ·obtain rfl:xs=[]:=hx
   refine (h0 none 0 ⟨sep.toArray⟩ w).mono ?_
   rintro e w' ⟨rfl,rfl⟩
   exact fin [] rfl _ _ rfl (RowKit.Below.refl _ _)
  ·obtain ⟨_,rfl,rfl⟩:=hf
   by_cases hx:xs=[]
   ·subst hx
    refine (h0 (some ⟨b,off,none⟩) cap ⟨sep.toArray⟩ w).mono ?_
    rintro e w' ⟨rfl,rfl⟩
    exact fin [] rfl _ _ rfl (RowKit.Below.refl _ _)
   ·have e1:(xs.map fun s=> (⟨s.toArray⟩:ByteArray)).map (·.data.toList)=xs:=by simp [List.map_map,Function.comp_def]
    have hlt:b < w.heap.size:=(Array.getElem?_eq_some_iff.1 hb).1
    have:=hc b off cap (xs.map fun s=> ⟨s.toArray⟩) ⟨sep.toArray⟩ w (Y8u hb hl (by simp [Ty.size])) hlt (by simpa using hd.1) (by simpa using hlc) (by rw [e1]; exact hd.2)
    rw [e1,YVu] at this
    refine this.mono ?_
    rintro e w' ⟨rfl,hw⟩
    exact fin [] rfl _ _ rfl hw
theorem Yib {w:World} {fz:Nat->Prop} {k k':IntKind}:∀ {xs:List (Int×Int)} {cs:List Value},RepL (Rep w fz (.st (.pair (.int k) (.int k')))) xs cs []->∀ i,i < xs.length->cs[2*i]? =some (.int k (xs.getD i (0,0)).1)/\cs[2*i+1]? =some (.int k' (xs.getD i (0,0)).2)
 | [],_,_,i,hi=> by cases hi
 | x::xs,cs,h,i,hi=> by
  obtain ⟨c1,c2,X1,X2,rfl,hX,⟨d1,d2,Y1,Y2,rfl,_,⟨rfl,_⟩,rfl,_⟩,h2⟩:=h
  obtain ⟨rfl,rfl⟩:=List.nil_eq_append_iff.1 hX
  cases i with
  | zero=> exact ⟨rfl,rfl⟩
  | succ i=>
   have:=Yib h2 i (by simpa using hi)
   simpa [Nat.mul_succ,List.getD_cons_succ] using this
theorem Ylt {E:Env} {c:FuncId} (g3 g4:Nat) (h3:(g3,(⟨.arr 256 (.int .u8),YX3⟩:Σ t:Ty,t.den))∈E.gl) (h4:(g4,(⟨.arr 16 (.st (.pair (.int .u8) (.int .u8))),YW3⟩:Σ t:Ty,t.den))∈E.gl)
  (e3:YX3=(List.range 256).map fun c=> (Lib.firstT c:Int)) (e4:YW3=(List.range 16).map fun c=> ((Lib.accLo c:Int),(Lib.accHi c:Int)))
  (hc:∀ (s:ByteArray) (w:World),s.size<=9223372036854775807->Lib.Utf8Tabs g3 g4 w->Calls E.P c #[.string s] w fun e w'=> e=.returned (.tuple #[.int .i32 (Lib.decodeLastL s.data.toList).1,.int .i64 (Lib.decodeLastL s.data.toList).2])/\RowKit.Below w.heap.size w w')
  (x:List UInt8) (y:Int×Int) (h:Yv4 x=some y):YW2 E ⟨[.str],[.int .i32,.int .i64],none⟩ c x y:=by
 rintro w fz vs X ⟨cs,rfl,rfl,rfl⟩ _ _ hz hG
 obtain ⟨el,fr,hm⟩:=hG.ints h3
 obtain ⟨_,_,c4,el4,fr4,hm4,_,hr⟩:=hG.tab g4 _ _ h4
 unfold Yv4 at h
 cases hd:decide (x.length<=9223372036854775807) with
 | false=> rw [hd] at h; cases h
 | true=>
  rw [hd,Ygu] at h
  obtain rfl:=Option.some.inj h
  have ht:Lib.Utf8Tabs g3 g4 w:=by
   refine ⟨fun k hk=> ?_,fun i hi=> ?_⟩
   ·simp [World.cell?,hm,e3,hk]
   ·have:=Yib hr i (by rw [e4]; simpa using hi)
    rw [e4] at this
    rw [Y4v,Y4v] at this
    simpa [World.cell?,hm4,hi] using this
  refine (hc ⟨x.toArray⟩ w (by simpa [ByteArray.size] using YQu hd) ht).mono ?_
  rintro e w' ⟨rfl,hb⟩
  exact ⟨Y36 hb,fz,Yg2 hz hb.size,[.int .i32 (Lib.decodeLastL x).1,.int .i64 (Lib.decodeLastL x).2],[],rfl,⟨_,_,[],[],rfl,rfl,⟨rfl,rfl⟩,rfl,_,rfl,rfl,rfl⟩,List.nodup_nil,by simp⟩
theorem Ykt {E:Env} {c:FuncId} (g3 g4:Nat) (h3:(g3,(⟨.arr 256 (.int .u8),YX3⟩:Σ t:Ty,t.den))∈E.gl) (h4:(g4,(⟨.arr 16 (.st (.pair (.int .u8) (.int .u8))),YW3⟩:Σ t:Ty,t.den))∈E.gl)
  (e3:YX3=(List.range 256).map fun c=> (Lib.firstT c:Int)) (e4:YW3=(List.range 16).map fun c=> ((Lib.accLo c:Int),(Lib.accHi c:Int)))
  (hc:∀ (s:ByteArray) (w:World),Lib.Utf8Tabs g3 g4 w->Calls E.P c #[.string s] w fun e w'=> e=.returned (.tuple #[.int .i32 (Lib.decodeGo s).1,.int .i64 (Lib.decodeGo s).2])/\RowKit.Below w.heap.size w w')
  (x:List UInt8) (y:Int×Int) (h:Yk5 x=some y):YW2 E ⟨[.str],[.int .i32,.int .i64],none⟩ c x y:=by
 rintro w fz vs X ⟨cs,rfl,rfl,rfl⟩ _ _ hz hG
 obtain ⟨el,fr,hm⟩:=hG.ints h3
 obtain ⟨_,_,c4,el4,fr4,hm4,_,hr⟩:=hG.tab g4 _ _ h4
 have e:y=((((Lib.decodeGo ⟨x.toArray⟩).1:Nat):Int),(((Lib.decodeGo ⟨x.toArray⟩).2:Nat):Int)):=by
  obtain rfl:=Option.some.inj h
  unfold Lib.decodeGo Yx
  cases x with
  | nil=> rfl
  | cons b l=> simp [ByteArray.size]
 subst e
 have ht:Lib.Utf8Tabs g3 g4 w:=by
  refine ⟨fun k hk=> ?_,fun i hi=> ?_⟩
  ·simp [World.cell?,hm,e3,hk]
  ·have:=Yib hr i (by rw [e4]; simpa using hi)
   rw [e4] at this
   rw [Y4v,Y4v] at this
   simpa [World.cell?,hm4,hi] using this
 refine (hc ⟨x.toArray⟩ w ht).mono ?_
 rintro e w' ⟨rfl,hb⟩
 exact ⟨Y36 hb,fz,Yg2 hz hb.size,[.int .i32 (Lib.decodeGo ⟨x.toArray⟩).1,.int .i64 (Lib.decodeGo ⟨x.toArray⟩).2],[],rfl,⟨_,_,[],[],rfl,rfl,⟨rfl,rfl⟩,rfl,_,rfl,rfl,rfl⟩,List.nodup_nil,by simp⟩
end Go.Abs
namespace Go.Abs
def Yb3 {H α:Type} (f:DataW H->Option α):List (DataW H)->Option α
 | [d]=> f d
 | _=> none
def allD {H α:Type} (f:DataW H->Option α):List (DataW H)->Option (List α)
 | []=> some []
 | d::ds=> match f d,allD f ds with
  | some x,some xs=> some (x::xs)
  | _,_=> none
def unD (H:Type):(t:Ty)->(DataW H->Option t.den)×(List (DataW H)->Option t.den)
 | .pair a b=> (fun _=> none,fun ds=> match ds with
  | d::ds=> match (unD H a).1 d,(unD H b).2 ds with
   | some x,some y=> some (x,y)
   | _,_=> none
  | []=> none)
 | .unit=> (fun _=> none,fun ds=> match ds with
  | []=> some ()
  | _=> none)
 | .st a=>
  let f:=fun d:DataW H=> match d with
   | .agg ds=> (unD H a).2 ds
   | _=> none
  (f,Yb3 f)
 | .arr n a=>
  let f:=fun d:DataW H=> match d with
   | .agg ds=> bif Nat.beq ds.length n then allD (unD H a).1 ds else none
   | _=> none
  (f,Yb3 f)
 | .sl _ a=>
  let f:=fun d:DataW H=> match d with
   | .nil=> some []
   | .slice ds _=> allD (unD H a).1 ds
   | _=> none
  (f,Yb3 f)
 | .int k=>
  let f:=fun d:DataW H=> match d with
   | .lit (.int j n)=> if j=k then some n else none
   | _=> none
  (f,Yb3 f)
 | .bool=>
  let f:=fun d:DataW H=> match d with
   | .lit (.bool b)=> some b
   | _=> none
  (f,Yb3 f)
 | .str=>
  let f:=fun d:DataW H=> match d with
   | .lit (.string s)=> some s
   | _=> none
  (f,Yb3 f)
 | _=> (fun _=> none,fun _=> none)
def Ty.inB:Ty->Bool
 | .pair a b=> a.inB&&b.inB
 | .unit=> true
 | .st a=> a.inB
 | .arr _ a=> a.inB
 | .sl own a=> !own&&a.inB&&decide (0 < a.size)
 | .int _=> true
 | .bool=> true
 | .str=> true
 | _=> false
section
variable {H:Type} {enc:TypeId×Value->H} {P:Program} {W:World} {sp:Nat->Bool} {held:Bool} {fz:Nat->Prop}
theorem Yw3 {T:Ty} {t:TypeId} (h:Info P T t):P.cellsOf t=T.size:=by
 obtain ⟨i,h1,h2,_⟩:=h.info
 simp [Program.cellsOf,h1,h2]
theorem mapM_at {α β:Type} {f:α->Option β}:∀ {l:List α} {r:List β},l.mapM f=some r->∀ (i:Nat) (a:α),l[i]? =some a->∃ b,r[i]? =some b/\f a=some b:=fun h=> Lib.mapM_at h
theorem YAf {a:Addr} {n:Nat} {cs:List Value} (h:W.cells? 0 a n=some cs) (hn:0 < n):a.spot=none/\∃ c el fr,W.heap[a.block]? =some (.cells c el fr)/\a.off+n<=c.size/\cs=Yl c a.off n:=by
 unfold World.cells? at h
 rw [Yku (Nat.zero_le _)] at h
 have hl:cs.length=n:=by simpa using Lib.mapM_length h
 have at_:∀ i,i < n->∃ v,cs[i]? =some v/\W.cell? (a.add i)=some v:=fun i hi=> mapM_at h i i (by simp [hi])
 obtain ⟨v,_,h0⟩:=at_ 0 hn
 rw [show a.add 0=a from rfl] at h0
 unfold World.cell? at h0
 split at h0
 ·rename_i c el fr hb
  split at h0
  ·cases h0
  ·rename_i hs
   have hs:a.spot=none:=by simpa using hs
   have hcell:∀ i,i < n->∃ v,cs[i]? =some v/\c[a.off+i]? =some v:=by
    intro i hi
    obtain ⟨v,h1,h2⟩:=at_ i hi
    refine ⟨v,h1,?_⟩
    unfold World.cell? Addr.add at h2
    by_cases h0:i=0
    ·subst h0; simpa [hb,hs] using h2
    ·simpa [hb,h0] using h2
   refine ⟨hs,c,el,fr,hb,?_,?_⟩
   ·obtain ⟨v,_,h2⟩:=hcell (n - 1) (by omega)
    have:=(Array.getElem?_eq_some_iff.1 h2).1
    omega
   ·apply List.ext_getElem?
    intro i
    by_cases hi:i < n
    ·obtain ⟨v,h1,h2⟩:=hcell i hi
     rw [h1,Yl,List.getElem?_take_of_lt hi,List.getElem?_drop,Y4v,h2]
    ·rw [List.getElem?_eq_none (by omega),List.getElem?_eq_none (by simp [Yl]; omega)]
 ·cases h0
theorem Ykb {α:Type} {R:α->List Value->List Nat->Prop} {f:Nat->Option (DataW H×List MemPlace)} {g:DataW H->Option α} {chunk:Nat->List Value}
  (hf:∀ i y,f i=some y->∃ x,g y.1=some x/\R x (chunk i) []):∀ (n k:Nat) (ys:List (DataW H×List MemPlace)),
  (List.range' k n).mapM f=some ys->ys.length=n/\∃ xs,allD g (ys.map (·.1))=some xs/\xs.length=n/\RepL R xs ((List.range' k n).flatMap chunk) []
 | 0,k,ys,h3=> by
  simp only [List.range'_zero,List.mapM_nil,Option.pure_def,Ytu] at h3
  subst h3
  exact ⟨rfl,[],rfl,rfl,rfl,rfl⟩
 | n+1,k,ys,h3=> by
  simp only [List.range'_succ,List.mapM_cons,Option.pure_def,Option.bind_eq_bind,YLu,Ytu] at h3
  obtain ⟨y,hy,ys',hys,rfl⟩:=h3
  obtain ⟨x,hx1,hx2⟩:=hf _ _ hy
  obtain ⟨hl,xs,e1,e2,e3⟩:=Ykb hf n (k+1) ys' hys
  exact ⟨by simp [hl],x::xs,by simp [allD,hx1,e1],by simp [e2],chunk k,_,[],[],by rw [List.range'_succ,List.flatMap_cons],rfl,hx2,e3⟩
theorem Yia (cs:List Value) (off sz:Nat):∀ n k,(List.range' k n).flatMap (fun i=> (cs.drop (off+i*sz)).take sz)=(cs.drop (off+k*sz)).take (n*sz)
 | 0,k=> by simp
 | n+1,k=> by
  rw [List.range'_succ,List.flatMap_cons,Yia cs off sz n (k+1),Nat.succ_mul,Nat.succ_mul,Nat.add_comm (n*sz) sz,List.take_add,List.drop_drop,<-Nat.add_assoc]
theorem Ydi {cs:List Value} {n:Nat} (h:cs.length=n):cs.take n=cs:=YWu (by omega)
theorem Yoi (hsp:∀ b,sp b=true) (hfz:∀ b,b < W.heap.size->fz b):∀ t:Ty,t.inB=true->
  (∀ tid fuel cs y,(Y21 P t).1 tid->DataW.trod enc P W 0 sp held fuel tid cs=some y->∃ x,(unD H t).1 y.1=some x/\Rep W fz t x cs [])/\
  (∀ (fs:List Field) (off fuel:Nat) (cs:List Value) (ys:List (DataW H×List MemPlace)),(Y21 P t).2 fs off->cs.length=off+t.size->
   fs.mapM (fun f=> DataW.trod enc P W 0 sp held fuel f.type ((cs.drop f.offset).take (P.cellsOf f.type)))=some ys->∃ x,(unD H t).2 (ys.map (·.1))=some x/\Rep W fz t x (cs.drop off) []):=by
 have lone:∀ (t:Ty) (ok:TypeId->Prop) (f:DataW H->Option t.den),(∀ tid,ok tid->P.cellsOf tid=t.size)->
   (∀ tid fuel cs y,ok tid->DataW.trod enc P W 0 sp held fuel tid cs=some y->∃ x,f y.1=some x/\Rep W fz t x cs [])->
   ∀ (fs:List Field) (off fuel:Nat) (cs:List Value) (ys:List (DataW H×List MemPlace)),Yp1 t ok fs off->cs.length=off+t.size->
   fs.mapM (fun f=> DataW.trod enc P W 0 sp held fuel f.type ((cs.drop f.offset).take (P.cellsOf f.type)))=some ys->∃ x,Yb3 f (ys.map (·.1))=some x/\Rep W fz t x (cs.drop off) []:=by
  rintro t ok f hc hf _ off fuel cs ys ⟨f1,rfl,rfl,hpos,hok⟩ hl h
  simp only [List.mapM_cons,List.mapM_nil,Option.pure_def,Option.bind_eq_bind,YLu,Ytu] at h
  obtain ⟨y,hy,_,rfl,rfl⟩:=h
  obtain ⟨x,h1,h2⟩:=hf _ _ _ _ hok hy
  rw [hc _ hok,Ydi (by rw [Yzu]; omega)] at h2
  exact ⟨x,h1,h2⟩
 intro t
 induction t with
 | pair a b iha ihb=>
  intro ht
  simp only [Ty.inB,Ylu] at ht
  refine ⟨fun _ _ _ _ h=> h.elim,?_⟩
  rintro _ off fuel cs ys ⟨f1,f2,l0,rfl,rfl,hpos,h1,h2⟩ hl h
  generalize f2::l0=l at h h2
  simp only [List.mapM_cons,Option.pure_def,Option.bind_eq_bind,YLu,Ytu] at h
  obtain ⟨y,hy,ys',hys,rfl⟩:=h
  obtain ⟨x,e1,e2⟩:=(iha ht.1).1 _ _ _ _ h1 hy
  have hsz:a.size=P.cellsOf f1.type:=by
   have h1':TyOK P a f1.type:=h1
   obtain ⟨i,g1,g2,_⟩:=h1'.info
   simp [Program.cellsOf,g1,g2]
  have hl':cs.length=(f1.offset+a.size)+b.size:=by rw [hl,Ty.size]; omega
  obtain ⟨z,e3,e4⟩:=(ihb ht.2).2 l (f1.offset+a.size) fuel cs ys' h2 hl' hys
  refine ⟨(x,z),by simp [unD,e1,e3],(cs.drop f1.offset).take a.size,cs.drop (f1.offset+a.size),[],[],?_,rfl,by rw [hsz]; exact e2,e4⟩
  rw [<-List.drop_drop,Ybv]
 | unit=>
  intro _
  refine ⟨fun _ _ _ _ h=> h.elim,?_⟩
  rintro fs off fuel cs ys h hl hm
  obtain rfl:fs=[]:=h
  simp only [List.mapM_nil,Option.pure_def,Ytu] at hm
  subst hm
  exact ⟨(),rfl,YPu (by rw [hl]; exact Nat.le_refl _),rfl⟩
 | st a ih=>
  intro ht
  have main:∀ tid fuel cs y,(Y21 P (.st a)).1 tid->DataW.trod enc P W 0 sp held fuel tid cs=some y->∃ x,(unD H (.st a)).1 y.1=some x/\Rep W fz (.st a) x cs []:=by
   rintro tid fuel cs y ⟨hi,fs,hu,hf⟩ h
   cases fuel with
   | zero=> simp [DataW.trod] at h
   | succ fuel=>
    simp only [DataW.trod,hu] at h
    split at h
    ·rename_i hl
     obtain ⟨ys,hm,rfl⟩:=YKu.1 h
     obtain ⟨x,e1,e2⟩:=(ih ht).2 fs.toList 0 fuel cs ys hf (by rw [hl,Yw3 hi]; simp [Ty.size]) hm
     exact ⟨x,e1,e2⟩
    ·cases h
  exact ⟨main,lone (.st a) _ _ (fun tid h=> Yw3 h.1) main⟩
 | arr n a ih=>
  intro ht
  have main:∀ tid fuel cs y,(Y21 P (.arr n a)).1 tid->DataW.trod enc P W 0 sp held fuel tid cs=some y->∃ x,(unD H (.arr n a)).1 y.1=some x/\Rep W fz (.arr n a) x cs []:=by
   rintro tid fuel cs y ⟨hi,e,hu,he⟩ h
   cases fuel with
   | zero=> simp [DataW.trod] at h
   | succ fuel=>
    simp only [DataW.trod,hu] at h
    split at h
    ·rename_i hl
     obtain ⟨ys,hm,rfl⟩:=YKu.1 h
     have he':TyOK P a e:=he
     have hsz:P.cellsOf e=a.size:=by
      obtain ⟨i,g1,g2,_⟩:=he'.info
      simp [Program.cellsOf,g1,g2]
     rw [hsz,List.range_eq_range'] at hm
     obtain ⟨h1,xs,h2,h3,h4⟩:=Ykb (R:=Rep W fz a) (g:=(unD H a).1) (chunk:=fun i=> (cs.drop (0+i*a.size)).take a.size) (fun i y hy=> by
      rw [Y2v]; exact (ih ht).1 _ _ _ _ he hy) n 0 ys hm
     rw [Yia cs 0 a.size n 0,Y2v,Nat.zero_mul,YZu,Ydi (by rw [hl,Yw3 hi]; rfl)] at h4
     refine ⟨xs,?_,h3,h4⟩
     simp only [unD,YVu,h1,Nat.beq_refl,Ygu]
     exact h2
    ·cases h
  exact ⟨main,lone (.arr n a) _ _ (fun tid h=> Yw3 h.1) main⟩
 | sl own a ih=>
  intro ht
  simp only [Ty.inB,Ylu,YXu,Yxu] at ht
  obtain ⟨⟨rfl,ht⟩,hpos⟩:=ht
  have main:∀ tid fuel cs y,(Y21 P (.sl false a)).1 tid->DataW.trod enc P W 0 sp held fuel tid cs=some y->∃ x,(unD H (.sl false a)).1 y.1=some x/\Rep W fz (.sl false a) x cs []:=by
   rintro tid fuel cs y ⟨hi,e,hu,he⟩ h
   have he':TyOK P a e:=he
   have hsz:P.cellsOf e=a.size:=by
    obtain ⟨i,g1,g2,_⟩:=he'.info
    simp [Program.cellsOf,g1,g2]
   cases fuel with
   | zero=> simp [DataW.trod] at h
   | succ fuel=>
    have hcs:cs.length=1\/cs.length≠1:=by omega
    unfold DataW.trod at h
    rw [hu] at h
    split at h
    all_goals first
     | (rename_i h1; cases h1; done)
     | skip
    ·rename_i h1
     cases h
     exact ⟨[],rfl,.inl ⟨rfl,rfl,rfl⟩⟩
    ·rename_i e1 p len cap h1
     cases h1
     simp only [hsz] at h
     split at h
     ·rename_i hc
      obtain ⟨elems,hel,hr⟩:=YLu.1 h
      rw [Yku (hsp _)] at hr
      obtain ⟨rest,hrest,rfl⟩:=YKu.1 hr
      by_cases h0:cap=0
      ·subst h0
       obtain rfl:len=0:=by omega
       simp only [List.range_zero,List.mapM_nil,Option.pure_def,Ytu] at hel
       subst hel
       exact ⟨[],rfl,.inr (.inr ⟨rfl,p,rfl,rfl,rfl⟩)⟩
      ·have hlast:∀ j,j < cap->∃ cs' y,W.cells? 0 (p.add (j*a.size)) a.size=some cs'/\DataW.trod enc P W 0 sp held fuel e cs'=some y:=by
        intro j hj
        by_cases hl:j < len
        ·obtain ⟨y,_,hy⟩:=mapM_at hel j j (by simp [hl])
         obtain ⟨cs',h1,h2⟩:=YLu.1 hy
         exact ⟨cs',y,h1,h2⟩
        ·obtain ⟨y,_,hy⟩:=mapM_at hrest (j - len) (j - len) (by rw [List.getElem?_range (by omega)])
         rw [show len+(j - len)=j by omega] at hy
         obtain ⟨cs',h1,h2⟩:=YLu.1 hy
         exact ⟨cs',y,h1,h2⟩
       obtain ⟨cs0,_,g0,_⟩:=hlast 0 (by omega)
       rw [Nat.zero_mul,show p.add 0=p from rfl] at g0
       obtain ⟨hspot,c,el,fr,hb,_,_⟩:=YAf g0 hpos
       obtain ⟨b,off,spot⟩:=p
       obtain rfl:spot=none:=hspot
       have hat:∀ j cs',W.cells? 0 ((⟨b,off,none⟩:Addr).add (j*a.size)) a.size=some cs'->off+j*a.size+a.size<=c.size/\cs'=Yl c (off+j*a.size) a.size:=by
        intro j cs' hj
        rw [Yr3] at hj
        obtain ⟨_,c',el',fr',hb',h1,h2⟩:=YAf hj hpos
        rw [hb] at hb'
        cases hb'
        exact ⟨h1,h2⟩
       obtain ⟨cs9,_,g9,_⟩:=hlast (cap - 1) (by omega)
       have hin:=(hat _ _ g9).1
       have hcap:off+cap*a.size<=c.size:=by
        have:cap*a.size=(cap - 1)*a.size+a.size:=by rw [<-Nat.succ_mul]; congr 1; omega
        omega
       rw [List.range_eq_range'] at hel
       obtain ⟨k1,xs,k2,k3,k4⟩:=Ykb (R:=Rep W fz a) (g:=(unD H a).1) (chunk:=fun i=> (c.toList.drop (off+i*a.size)).take a.size) (fun i y hy=> by
        obtain ⟨cs',h1,h2⟩:=YLu.1 hy
        obtain ⟨_,rfl⟩:=hat _ _ h1
        exact (ih ht).1 _ _ _ _ he h2) len 0 elems hel
       rw [Yia c.toList off a.size len 0,Nat.zero_mul,Nat.add_zero] at k4
       refine ⟨xs,k2,.inr (.inl ⟨b,off,cap,c,el,fr,[],by rw [k3],hb,by omega,hcap,?_,hfz b (Array.getElem?_eq_some_iff.1 hb).1,rfl,rfl⟩)⟩
       rw [k3]
       exact k4
     ·cases h
    ·cases h
  exact ⟨main,lone (.sl false a) _ _ (fun tid h=> Yw3 h.1) main⟩
 | int k=>
  intro _
  have main:∀ tid fuel cs y,(Y21 P (.int k)).1 tid->DataW.trod enc P W 0 sp held fuel tid cs=some y->∃ x,(unD H (.int k)).1 y.1=some x/\Rep W fz (.int k) x cs []:=by
   rintro tid fuel cs y ⟨hi,hu⟩ h
   obtain ⟨n,rfl,rfl,_⟩:=DataW.trod_int hu h
   exact ⟨n,by simp [unD],rfl,rfl⟩
  exact ⟨main,lone (.int k) _ _ (fun tid h=> Yw3 h.1) main⟩
 | bool=>
  intro _
  have main:∀ tid fuel cs y,(Y21 P .bool).1 tid->DataW.trod enc P W 0 sp held fuel tid cs=some y->∃ x,(unD H .bool).1 y.1=some x/\Rep W fz .bool x cs []:=by
   rintro tid fuel cs y ⟨hi,hu⟩ h
   obtain ⟨n,rfl,rfl⟩:=DataW.trod_bool hu h
   exact ⟨n,rfl,rfl,rfl⟩
  exact ⟨main,lone .bool _ _ (fun tid h=> Yw3 h.1) main⟩
 | str=>
  intro _
  have main:∀ tid fuel cs y,(Y21 P .str).1 tid->DataW.trod enc P W 0 sp held fuel tid cs=some y->∃ x,(unD H .str).1 y.1=some x/\Rep W fz .str x cs []:=by
   rintro tid fuel cs y ⟨hi,hu⟩ h
   obtain ⟨s,rfl,rfl,_⟩:=DataW.trod_string hu h
   exact ⟨s.data.toList,rfl,rfl,rfl⟩
  exact ⟨main,lone .str _ _ (fun tid h=> Yw3 h.1) main⟩
 | _=> intro ht; cases ht
end
end Go.Abs
namespace Go.Abs
theorem Yci {P:Program} {W:World} {laid:List (String×DataW Unit)} (h:laidMet P laid W) {name:String} {d:DataW Unit} (hm:(name,d)∈laid) {g:Nat} {tid:TypeId} (hg:P.globalNamed name=some g)
  (hty:(P.globals[g]?).map (·.type)=some tid) {t:Ty} (ht:TyOK P t tid) (hin:t.inB=true) (hp:t.pure=true) {x:t.den} (hx:(unD Unit t).1 d=some x) {fz:Nat->Prop} (hfz:∀ b,b < W.heap.size->fz b):
  t.pure=true/\fz g/\∃ c el fr,W.heap[g]? =some (.cells c el fr)/\Rep W fz t x c.toList []:=by
 obtain ⟨ps,hl,_⟩:=h
 have key:∀ (l:List (String×DataW Unit)) (ps:List MemPlace),DataW.LaidVars P W l ps->(name,d)∈l->∃ cs fuel p,W.var? P name=some cs/\DataW.trod (fun _=> ()) P W 0 (fun _=> true) false fuel tid cs.toList=some (d,p):=by
  intro l
  induction l with
  | nil=> intro ps _ hm; cases hm
  | cons y l ih=>
   rintro ps ⟨g',t',cs,fuel,p,q,h1,h2,h3,h4,h5,_⟩ hm
   rcases Yuu.1 hm with e | hm
   ·obtain rfl:name=y.1:=congrArg Prod.fst e
    obtain rfl:d=y.2:=congrArg Prod.snd e
    rw [hg] at h1
    cases h1
    rw [hty] at h2
    cases h2
    exact ⟨cs,fuel,p,h3,h4⟩
   ·exact ih q h5 hm
 obtain ⟨cs,fuel,p,h1,h2⟩:=key laid ps hl hm
 obtain ⟨y,e1,e2⟩:=(Yoi (H:=Unit) (enc:=fun _=> ()) (held:=false) (fun _=> rfl) hfz t hin).1 tid fuel cs.toList _ ht h2
 rw [hx] at e1
 obtain rfl:=Option.some.inj e1
 unfold World.var? at h1
 rw [hg,Yiu] at h1
 split at h1
 ·rename_i c el fr hb
  cases h1
  exact ⟨hp,hfz g (Array.getElem?_eq_some_iff.1 hb).1,_,el,fr,hb,e2⟩
 ·cases h1
theorem Y1m {H:Type} {enc:TypeId×Value->H} {P:Program} {W:World} {sp:Nat->Bool} {held:Bool} (hsp:∀ b,sp b=true) {fz:Nat->Prop} (hfz:∀ b,b < W.heap.size->fz b) {t:Ty} {tid:TypeId} (ht:TyOK P t tid) (hin:t.inB=true)
  {r:Reach} {base:Nat} {v:Value} (hv:Value.okWide P W r base tid v) {d:DataW H} {p:List MemPlace} (hd:DataW.Trod enc P W 0 sp held tid v d p):
  ∃ (x:t.den) (cs:List Value),v=mkV t.isAgg cs/\(unD H t).1 d=some x/\Rep W fz t x cs []:=by
 obtain ⟨fuel,hf⟩:=hd
 obtain ⟨x,h1,h2⟩:=(Yoi (H:=H) (enc:=enc) (held:=held) hsp hfz t hin).1 tid fuel _ _ ht hf
 refine ⟨x,v.cells.toList,?_,h1,h2⟩
 obtain ⟨u,hu,ha⟩:=ht.under
 have hl:=h2.length
 have hagg:t.isAgg=true->∃ cs,v=.agg cs:=by
  intro e
  rw [<-ha] at e
  unfold Value.okWide at hv
  rw [hu] at hv
  cases u <;> first
   | (cases e; done)
   | (obtain ⟨cs,h,_⟩:=hv; exact ⟨cs,h⟩)
 cases e:t.isAgg with
 | true=> obtain ⟨cs,rfl⟩:=hagg e; simp [mkV,Value.cells]
 | false=>
  rw [e] at ha
  have hna:∀ cs,v≠.agg cs:=by
   rintro cs rfl
   unfold Value.okWide at hv
   rw [hu] at hv
   cases u <;> first
    | (cases ha; done)
    | (simp only [Cell.okWide,hu,Cell.ok] at hv)
  have hc:v.cells=#[v]:=by cases v <;> first | rfl | exact absurd rfl (hna _)
  rw [hc]
  rfl
theorem Yms {H:Type} {enc:TypeId×Value->H} {P:Program} {f:Func} {s:ChangeSpec} {apart handsOn:Bool} {W W':World} {args:Array Value} {ds gs:List (DataW H)} {before:List MemPlace}
  (hl:laidOutB P=true) (htys:f.params.toList.all (fun t=> P.readableRec t&&decide (t < P.types.size))=true) (hv:s.vars=[])
  (hW:DataW.Whole enc P f.params.toList s.vars apart W args.toList ds gs before) (hb:RowKit.Below W.heap.size W W')
  {tb:TypeId} (hr:f.resultTypes=#[tb]) (hub:P.underlying tb=some .bool) (hfr:(s.fn H (ds++gs)).results=[.lit (.bool true)]) (hfa:(s.fn H (ds++gs)).args=ds) (hfv:(s.fn H (ds++gs)).vars=[]):
  s.post enc P f apart true handsOn false W args (.bool true) W':=by
 have hW':=hW
 obtain ⟨p,q,hA,hV,rfl,hz,hn⟩:=hW
 have hlt:∀ x∈p,x.block < W.heap.size:=fun x hx=> hA.lt x hx
 have hargs:∀ (ts:List TypeId) (vs:List Value) (ds:List (DataW H)) (p:List MemPlace),ts.all (fun t=> P.readableRec t&&decide (t < P.types.size))=true->(∀ x∈p,x.block < W.heap.size)->
   DataW.TrodAll enc P W 0 (fun _=> true) true ts vs ds p->DataW.TrodAll enc P W' 0 (fun b=> decide (b < W.heap.size)) true ts vs ds p:=by
  intro ts
  induction ts with
  | nil=>
   intro vs ds p _ _ h
   cases vs <;> cases ds <;> exact h
  | cons t ts ih=>
   intro vs ds p ht hp h
   cases vs with
   | nil=> cases ds <;> exact h.elim
   | cons v vs=>
    cases ds with
    | nil=> exact h.elim
    | cons d ds=>
     obtain ⟨p1,p2,h1,h2,rfl⟩:=h
     rw [List.all_cons,Ylu,Ylu] at ht
     refine ⟨p1,p2,RowKit.Below.trod hl ht.1.1 (YQu ht.1.2) h1 hb (fun x hx=> hp x (YAu.2 (.inl hx))),ih vs ds p2 ht.2 (fun x hx=> hp x (YAu.2 (.inr hx))) h2,rfl⟩
 refine ⟨ds,gs,p++q,[],p,[],hW',?_,?_,?_,hb.frame _,fun h=> by cases h⟩
 ·rw [hr,hfr]
  exact ⟨[],[],⟨1,by simp [DataW.trod,Value.cells,hub]⟩,rfl,rfl⟩
 ·rw [hfa]
  exact hargs _ _ _ _ htys hlt hA
 ·rw [hv,hfv]; rfl
theorem Y5r {W W':World} (h:Keep W [] W'):RowKit.Below W.heap.size W W':=⟨h.os,h.tape,h.output,h.size,fun k hk=> h.block k hk (by simp)⟩
end Go.Abs
namespace Go.Abs
theorem Yyf {P:Program} {W:World} {r:Reach} {base:Nat} {u:TypeId} {k:IntKind} {n:Int} (h:Cell.okWide P W r base u (.int k n)):k.has n:=by
 unfold Cell.okWide Cell.ok at h
 cases hu:P.underlying u with
 | none=> simp [hu] at h
 | some d=> cases d <;> simp [hu] at h <;> first | (obtain ⟨rfl,h⟩:=h; exact h) | exact h.elim
theorem YFp {P:Program} {W:World} {r:Reach} {base:Nat} {u:TypeId} {cs:Array Value} (h:Cell.okWide P W r base u (.agg cs)):False:=by
 unfold Cell.okWide Cell.ok at h
 cases hu:P.underlying u with
 | none=> simp [hu] at h
 | some d=> cases d <;> simp [hu] at h
theorem Y4u {P:Program} {W:World} {r:Reach} {base:Nat} {t:TypeId} {v:Value} (h:Value.okWide P W r base t v):∀ (k:IntKind) (n:Int),Value.int k n∈v.cells.toList->k.has n:=by
 have agg:∀ cs,v=.agg cs->Row.okWide P W r base t cs->∀ (k:IntKind) (n:Int),Value.int k n∈v.cells.toList->k.has n:=by
  rintro cs rfl ⟨ts,_,_,h3⟩ k n hm
  have hm:Value.int k n∈cs.toList:=hm
  obtain ⟨i,hi⟩:=List.getElem?_of_mem hm
  obtain ⟨u,_,hu⟩:=h3 i _ (by rw [<-Y4v]; exact hi)
  exact Yyf hu
 have lone:Cell.okWide P W r base t v->∀ (k:IntKind) (n:Int),Value.int k n∈v.cells.toList->k.has n:=by
  intro h k n hm
  cases v with
  | agg cs=> exact (YFp h).elim
  | int k' n'=>
   have:Value.int k n∈[Value.int k' n']:=hm
   simp only [YNu] at this
   cases this
   exact Yyf h
  | _=> simp [Value.cells] at hm
 unfold Value.okWide at h
 split at h
 ·obtain ⟨cs,e,_,h⟩:=h; exact agg cs e h
 ·obtain ⟨cs,e,_,h⟩:=h; exact agg cs e h
 ·exact lone h
def inTy:(t:Ty)->t.den->Prop
 | .int k,(n:Int)=> k.has n
 | .pair a b,x=> inTy a x.1/\inTy b x.2
 | .st a,x=> inTy a x
 | .arr _ a,x=> ∀ y∈(x:List a.den),inTy a y
 | _,_=> True
theorem Rep.inTy {w:World} {fz:Nat->Prop} (t:Ty):∀ {x:t.den} {cs:List Value} {X:List Nat},Rep w fz t x cs X->(∀ k n,Value.int k n∈cs->k.has n)->inTy t x:=by
 induction t with
 | int k=>
  intro x cs X h hc
  obtain ⟨rfl,_⟩:=h
  exact hc k x (by simp)
 | pair a b iha ihb=>
  intro x cs X h hc
  obtain ⟨c1,c2,X1,X2,rfl,_,h1,h2⟩:=h
  exact ⟨iha h1 fun k n hm=> hc k n (YAu.2 (.inl hm)),ihb h2 fun k n hm=> hc k n (YAu.2 (.inr hm))⟩
 | st a ih=> intro x cs X h hc; exact ih (x:=x) h hc
 | arr n a ih=>
  intro x cs X h hc
  obtain ⟨_,h⟩:=h
  have go:∀ (l:List a.den) (cs:List Value) (X:List Nat),RepL (Rep w fz a) l cs X->(∀ k n,Value.int k n∈cs->k.has n)->∀ y∈l,Go.Abs.inTy a y:=by
   intro l
   induction l with
   | nil=> intro _ _ _ _ y hy; cases hy
   | cons z l ihl=>
    intro cs X h hc y hy
    obtain ⟨c1,c2,X1,X2,rfl,_,h1,h2⟩:=h
    rcases Yuu.1 hy with rfl | hy
    ·exact ih h1 fun k n hm=> hc k n (YAu.2 (.inl hm))
    ·exact ihl c2 X2 h2 (fun k n hm=> hc k n (YAu.2 (.inr hm))) y hy
  exact go x cs X h hc
 | _=> intro x cs X _ _; trivial
theorem Y2m {H:Type} {enc:TypeId×Value->H} {P:Program} {W:World} {sp:Nat->Bool} {held:Bool} (hsp:∀ b,sp b=true) {fz:Nat->Prop} (hfz:∀ b,b < W.heap.size->fz b) {t:Ty} {tid:TypeId} (ht:TyOK P t tid) (hin:t.inB=true)
  {r:Reach} {base:Nat} {v:Value} (hv:Value.okWide P W r base tid v) {d:DataW H} {p:List MemPlace} (hd:DataW.Trod enc P W 0 sp held tid v d p):
  ∃ (x:t.den) (cs:List Value),v=mkV t.isAgg cs/\(unD H t).1 d=some x/\Rep W fz t x cs []/\inTy t x:=by
 obtain ⟨x,cs,rfl,h1,h2⟩:=Y1m hsp hfz ht hin hv hd
 refine ⟨x,cs,rfl,h1,h2,h2.inTy t ?_⟩
 intro k n hm
 refine Y4u hv k n ?_
 cases e:t.isAgg with
 | true=> simpa [mkV,Value.cells] using hm
 | false=>
  have hl:=h2.length
  cases cs with
  | nil=> cases hm
  | cons c cs=>
   have h1:t.size=1:=Ty.size_one e (fun a b he=> by subst he; exact ht) (fun he=> by subst he; exact ht)
   rw [h1] at hl
   have:cs=[]:=YRu (by simpa using hl)
   subst this
   simp only [YNu] at hm
   subst hm
   simp [mkV,Value.cells]
end Go.Abs
namespace Go.Abs
def Ty.lim (n:Nat):(t:Ty)->t.den->Prop
 | .pair a b,x=> a.lim n x.1/\b.lim n x.2
 | .st a,x=> a.lim n x
 | .arr _ a,x=> ∀ y∈(x:List a.den),a.lim n y
 | .sl _ a,x=> List.length (x:List a.den)<=n/\∀ y∈(x:List a.den),a.lim n y
 | .str,x=> List.length (x:List UInt8)<=n
 | _,_=> True
theorem Y69 {H α:Type} {f:DataW H->Option α} {β:DataW H->Nat} {βs:List (DataW H)->Nat} (hc:∀ d ds,β d+βs ds<=βs (d::ds)) (hp:∀ d,1<=β d) {n:Nat} {Q:α->Prop} (hf:∀ d x,f d=some x->β d<=n->Q x):
  ∀ (ds:List (DataW H)) (xs:List α),allD f ds=some xs->βs ds<=n->xs.length<=βs ds/\∀ y∈xs,Q y
 | [],xs,h,_=> by cases h; exact ⟨Nat.zero_le _,fun y hy=> by cases hy⟩
 | d::ds,xs,h,hb=> by
  have h1:=hc d ds
  have h2:=hp d
  simp only [allD] at h
  split at h
  ·rename_i x ys e1 e2
   cases h
   obtain ⟨g1,g2⟩:=Y69 hc hp hf ds ys e2 (by omega)
   refine ⟨by rw [Ynu]; omega,fun y hy=> ?_⟩
   rcases Yuu.1 hy with rfl | hy
   ·exact hf d _ e1 (by omega)
   ·exact g2 y hy
  ·cases h
theorem YZt {H:Type} {β:DataW H->Nat} {βs:List (DataW H)->Nat} (hc:∀ d ds,β d+βs ds<=βs (d::ds)) (hp:∀ d,1<=β d) (hl:∀ s,s.length<=β (.lit (.string s))) (ha:∀ ds,βs ds<=β (.agg ds)) (hs:∀ ds sp,βs ds<=β (.slice ds sp)) {n:Nat}:
  ∀ t:Ty,(∀ d x,(unD H t).1 d=some x->β d<=n->t.lim n x)/\(∀ ds x,(unD H t).2 ds=some x->βs ds<=n->t.lim n x):=by
 have lone:∀ {t:Ty} {f:DataW H->Option t.den},(∀ d x,f d=some x->β d<=n->t.lim n x)->∀ ds x,Yb3 f ds=some x->βs ds<=n->t.lim n x:=by
  intro t f hf ds x h hb
  unfold Yb3 at h
  split at h
  ·rename_i d
   have:=hc d []
   exact hf d x h (by omega)
  ·cases h
 intro t
 induction t with
 | pair a b iha ihb=>
  refine ⟨fun d x h=> (by simp [unD] at h),fun ds x h hb=> ?_⟩
  simp only [unD] at h
  split at h
  ·rename_i d ds
   have:=hc d ds
   split at h
   ·rename_i y z e1 e2
    cases h
    exact ⟨iha.1 d y e1 (by omega),ihb.2 ds z e2 (by omega)⟩
   ·cases h
  ·cases h
 | st a ih=>
  have main:∀ d x,(unD H (.st a)).1 d=some x->β d<=n->(Ty.st a).lim n x:=by
   intro d x h hb
   simp only [unD] at h
   split at h
   ·rename_i ds
    have:=ha ds
    exact ih.2 ds x h (by omega)
   ·cases h
  exact ⟨main,lone main⟩
 | arr k a ih=>
  have main:∀ d x,(unD H (.arr k a)).1 d=some x->β d<=n->(Ty.arr k a).lim n x:=by
   intro d x h hb
   simp only [unD] at h
   split at h
   ·rename_i ds
    have:=ha ds
    cases e:Nat.beq ds.length k with
    | false=> rw [e] at h; cases h
    | true=> rw [e] at h; exact (Y69 hc hp ih.1 ds x h (by omega)).2
   ·cases h
  exact ⟨main,lone main⟩
 | sl o a ih=>
  have main:∀ d x,(unD H (.sl o a)).1 d=some x->β d<=n->(Ty.sl o a).lim n x:=by
   intro d x h hb
   simp only [unD] at h
   split at h
   ·cases h; exact ⟨Nat.zero_le _,fun y hy=> by cases hy⟩
   ·rename_i ds sp
    have:=hs ds sp
    obtain ⟨g1,g2⟩:=Y69 hc hp ih.1 ds x h (by omega)
    exact ⟨by omega,g2⟩
   ·cases h
  exact ⟨main,lone main⟩
 | str=>
  have main:∀ d x,(unD H .str).1 d=some x->β d<=n->Ty.str.lim n x:=by
   intro d x h hb
   simp only [unD] at h
   split at h
   ·cases h
    exact Nat.le_trans (hl _) hb
   ·cases h
  exact ⟨main,lone main⟩
 | _=> exact ⟨fun _ _ _ _=> trivial,fun _ _ _ _=> trivial⟩
end Go.Abs
