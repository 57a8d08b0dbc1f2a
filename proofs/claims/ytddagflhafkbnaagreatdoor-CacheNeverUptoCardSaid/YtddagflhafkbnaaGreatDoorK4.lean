/- Part K4 of the proof: see the last text of the claim. No condition of its own. -/
import Derived.Test.YtddagflhafkbnaaGreatDoorK3
import Derived.Laws.BitsLemmas
set_option linter.all false
set_option autoImplicit false
namespace Go.Abs
section
variable {X:List Nat} {w0:World} {X0:Ent} {a:Act} {w:World} {fz:Nat->Prop} {m:Maps} {s:St} {E:Env}
theorem Rel.drawn {Y:List Nat} (h:Rel w0 X0 fz m Y s a w) (n:Nat):Rel w0 X0 fz m Y s a { w with drawn:=n }:=
 h.step ⟨rfl,rfl,rfl,Nat.le_refl _,fun _ _ _=> rfl⟩
theorem Yxi {zero:Array Value} {n:Nat}:(Builtin.zeroCells zero n).size=n*zero.size:=by simp [Builtin.zeroCells]
theorem YTs {t:Ty} {ts:Array TypeId} {st e xt ty:TypeId} {P:Program} {x:Value} {m n cap:Nat} {A:Addr} {new:Array Value} {w':World} (h0:ts[0]? =some st) (h1:ts[1]? =some xt) (hst:P.underlying st=some (.slice e)) (he:TyOK P t e)
  (hxt:(∃ e',P.underlying xt=some (.slice e'))\/P.underlying xt=some .string) (hx:(Builtin.lenOf x).run P w=.ok m w) (hnew:(Builtin.firstCells t.size m x).run P w=.ok new w) (hroom:n+m<=cap)
  (hs:(storeCells (A.add (n*t.size)) new.toList).run P w=.ok () w'):
  (Builtin.append_ ts ty #[.slice (some A) n cap,x]).run P w=.ok (.slice (some A) (n+m) cap) w':=by
 have hsz:=he.sizeOf w
 rcases hxt with ⟨e',hxt⟩ | hxt <;>
 simp [Builtin.append_,h0,h1,Yz hst,Yz hxt,hsz,hx,hnew,hroom,hs]
theorem YVs {t:Ty} {ts:Array TypeId} {st e xt ty:TypeId} {P:Program} {x:Value} {new:Array Value} (h0:ts[0]? =some st) (h1:ts[1]? =some xt) (hst:P.underlying st=some (.slice e)) (he:TyOK P t e)
  (hxt:(∃ e',P.underlying xt=some (.slice e'))\/P.underlying xt=some .string) (hx:(Builtin.lenOf x).run P w=.ok 0 w) (hnew:(Builtin.firstCells t.size 0 x).run P w=.ok new w):
  (Builtin.append_ ts ty #[.slice none 0 0,x]).run P w=.ok (.slice none 0 0) w:=by
 have hsz:=he.sizeOf w
 rcases hxt with ⟨e',hxt⟩ | hxt <;>
 simp [Builtin.append_,h0,h1,Yz hst,Yz hxt,hsz,hx,hnew]
def YE (w:World) (need cap:Nat) (e:TypeId):Nat:=need+w.tape w.drawn (.appendCap need cap e) % (2 ^ 63 - need)
theorem Yfg (w:World) {need:Nat} (cap:Nat) (e:TypeId) (h:need<=2 ^ 32):YE w need cap e<=9223372036854775807:=by
 unfold YE
 have:=Nat.mod_lt (w.tape w.drawn (.appendCap need cap e)) (show 0 < 2 ^ 63 - need by omega)
 omega
theorem YUs {t:Ty} {ts:Array TypeId} {st e xt ty:TypeId} {P:Program} {v x:Value} {m n cap:Nat} {base:Option Addr} {old new:Array Value} (h0:ts[0]? =some st) (h1:ts[1]? =some xt) (hst:P.underlying st=some (.slice e)) (he:TyOK P t e)
  (hxt:(∃ e',P.underlying xt=some (.slice e'))\/P.underlying xt=some .string) (hv:v=.slice base n cap) (hx:(Builtin.lenOf x).run P w=.ok m w) (hold:∀ d,(Builtin.firstCells t.size n v).run P { w with drawn:=d }=.ok old { w with drawn:=d })
  (hnew:∀ d,(Builtin.firstCells t.size m x).run P { w with drawn:=d }=.ok new { w with drawn:=d }) (hroom:cap < n+m) (hlim:n+m<=2 ^ 32):
  (Builtin.append_ ts ty #[v,x]).run P w=.ok (.slice (some ⟨w.heap.size,0,none⟩) (n+m) (YE w (n+m) cap e))
   (World.pushed { w with drawn:=w.drawn+1 } (.cells (old++new++Builtin.zeroCells (mkV t.isAgg (Go.Abs.zeroCells t)).cells (YE w (n+m) cap e - (n+m))) e)):=by
 subst hv
 have hsz:=fun w=> he.sizeOf w
 have hz:=fun w=> he.zeroValue w
 obtain ⟨i,hi1,hi2,hi3,hi4⟩:=he.info
 have hn:¬(n+m<=cap):=by omega
 have h63:¬(9223372036854775807 < (n:Int)+(m:Int)):=by omega
 have hnew':(Builtin.firstCells t.size m x).run P w.drew=.ok new w.drew:=hnew (w.drawn+1)
 have hold':(Builtin.firstCells t.size n (.slice base n cap)).run P w.drew=.ok old w.drew:=hold (w.drawn+1)
 have h48:¬(281474976710656 < Builtin.nextslicecap (n+m) cap*i.bytes):=by
  have h1:Builtin.nextslicecap (n+m) cap<=2*(n+m):=nextslicecap_le (by omega)
  have h2:Builtin.nextslicecap (n+m) cap*i.bytes<=2*(n+m)*4096:=Nat.mul_le_mul h1 hi4
  omega
 rcases hxt with ⟨e',hxt⟩ | hxt <;>
 simp [Builtin.append_,h0,h1,Yz hst,Yz hxt,hsz,hz,Yt8 hi1,hx,hnew',hold',hn,h63,h48,Question.forced,Question.cut,newRow,YE] <;> rfl
theorem YM7 {v:Value} (h:Rel w0 X0 fz m X s a w) {r:Nat} {t:Ty} {xs:List t.den} (hr:s.rows r=.none) (hx:Rep w fz (.sl true t) xs [v] X):
  ∃ m',Rel w0 X0 fz m' [] (s.setRow r (.mk t .live xs)) a w/\m'.ρ r=v:=by
 have:=Rel.giveRow (X:=X) (Y:=[]) (by rw [YHu]; exact h) hr hx
 exact ⟨_,this.1,YF1 _ _ _⟩
theorem Rep.cutRow {w:World} {fz:Nat->Prop} {t:Ty} (ht:t.pure=true) {xs:List t.den} {v:Value} {X:List Nat} {hi:Nat} {cs:List Value} (h:Rep w fz (.sl true t) xs [v] X) (hp:Yq3 v t.size 0 hi cs) (hhi:hi<=xs.length):
  ∃ z,cs=[z]/\Rep w fz (.sl true t) (List.take hi xs) [z] X:=by
 rcases hp with ⟨rfl,rfl,_,rfl⟩ | ⟨a,rfl,rfl,_,rfl⟩ | ⟨b,off,len,cap,off',cap',rfl,rfl,h1,h2,h3,h4⟩
 ·refine ⟨_,rfl,?_⟩
  rcases h with ⟨_,rfl,rfl⟩ | ⟨b,off,cap,c,el,fr,X',hv,_⟩ | ⟨hv,_⟩
  ·exact .inl ⟨rfl,rfl,rfl⟩
  ·cases hv
  ·cases hv
 ·refine ⟨_,rfl,?_⟩
  rcases h with ⟨hv,_⟩ | ⟨b,off,cap,c,el,fr,X',hv,g2,g3,g4,g5,g6,rfl⟩ | ⟨hv,_⟩
  ·cases hv
  ·have hX:X'=[]:=Rep.pure (.arr xs.length t) ht (x:=xs) ⟨rfl,g5⟩
   subst hX
   simp only [List.cons.injEq,Value.slice.injEq,Ytu,and_true] at hv
   obtain ⟨e1,e2,e3⟩:=hv
   subst e1 e3
   exact .inr (.inl ⟨b,off,0,c,el,fr,[],rfl,g2,Nat.zero_le _,g4,⟨by simp [Yl],rfl⟩,g6,rfl⟩)
  ·cases hv
 ·refine ⟨_,rfl,?_⟩
  rcases h with ⟨hv,_⟩ | ⟨b',off2,cap2,c,el,fr,X',hv,g2,g3,g4,g5,g6,rfl⟩ | ⟨hv,_⟩
  ·cases hv
  ·cases hv
   have hX:X'=[]:=Rep.pure (.arr xs.length t) ht (x:=xs) ⟨rfl,g5⟩
   subst hX
   have hlt:(List.take hi xs).length=hi:=by rw [Yyu]; omega
   rw [Nat.sub_zero] at h3 ⊢
   refine .inr (.inl ⟨b,off',cap',c,el,fr,[],by rw [hlt],g2,by rw [hlt]; exact h3,by omega,?_,g6,rfl⟩)
   rw [hlt]
   by_cases h0:hi=0
   ·subst h0
    rw [Nat.zero_mul]
    exact ⟨by simp [Yl],rfl⟩
   ·have e:=h1 (by omega)
    rw [Nat.zero_mul,Nat.add_zero] at e
    subst e
    have:=RepL.take (R:=Rep w fz t) (n:=t.size) (fun x cs X h=> ⟨Rep.length t h,Rep.pure t ht h⟩) hi g5
    have hmul:hi*t.size<=xs.length*t.size:=YTu _ hhi
    rw [show Yl c off' (hi*t.size)=(Yl c off' (xs.length*t.size)).take (hi*t.size) from by
     unfold Yl; rw [List.take_take,Nat.min_eq_left hmul]]
    exact this
  ·cases hv
theorem Ya9 {P:Program} (h:Rel w0 X0 fz m X s a w) {ts:Array TypeId} {st e xt:TypeId} {t:Ty} {ys zs:List t.den} {v x:Value} {id ty:Nat} (h0:ts[0]? =some st) (h1:ts[1]? =some xt) (hst:P.underlying st=some (.slice e)) (he:TyOK P t e)
  (hxt:(∃ e',P.underlying xt=some (.slice e'))\/P.underlying xt=some .string) (hv:Rep w fz (.sl true t) ys [v] X) (hx:YG4 P w fz t x zs) (hlim:ys.length+zs.length<=2 ^ 32) (hid:s.rows id=.none):
  ∃ z w' m',(Builtin.append_ ts ty #[v,x]).run P w=.ok z w'/\Rel w0 X0 fz m' [] (s.setRow id (.mk t .live (ys++zs))) a w'/\m'.ρ id=z/\YZ z:=by
 obtain ⟨hx1,hx2⟩:=hx
 obtain ⟨new,hnew,hrn⟩:=hx2 zs.length (Nat.le_refl _)
 rw [List.take_length] at hrn
 have hnl:new.size=zs.length*t.size:=by rw [<-YYu,RepL.length (fun x cs X h=> Rep.length t h) hrn]
 have hnl2:new.toList.length=zs.length*t.size:=RepL.length (fun x cs X h=> Rep.length t h) hrn
 have hnc:=RepL.cells (fun x cs X h=> Rep.cells t h) hrn
 have hzz:((mkV t.isAgg (zeroCells t)).cells).size=t.size:=by
  rw [<-YYu,Yg4 Y3c (fun ha=> by rw [Y04,he.one ha]),Y04]
 have fresh:∀ (base:Option Addr) (cap:Nat) (old:Array Value) (Z:List Nat),v=.slice base ys.length cap->cap < ys.length+zs.length->(∀ d,(Builtin.firstCells t.size ys.length v).run P { w with drawn:=d }=.ok old { w with drawn:=d })->RepL (Rep w fz t) ys old.toList Z->Rel w0 X0 fz m Z s a w->
   ∃ z w' m',(Builtin.append_ ts ty #[v,x]).run P w=.ok z w'/\Rel w0 X0 fz m' [] (s.setRow id (.mk t .live (ys++zs))) a w'/\m'.ρ id=z/\YZ z:=by
  intro base cap old Z hvb hroom hold hro hZ
  have hrun:=YUs (ty:=ty) h0 h1 hst he hxt hvb hx1 hold hnew hroom hlim
  have hol:old.size=ys.length*t.size:=by rw [<-YYu,RepL.length (fun x cs X h=> Rep.length t h) hro]
  have hge:ys.length+zs.length<=YE w (ys.length+zs.length) cap e:=Nat.le_add_right _ _
  have hcap:YE w (ys.length+zs.length) cap e*t.size<=(old++new++Builtin.zeroCells (mkV t.isAgg (zeroCells t)).cells (YE w (ys.length+zs.length) cap e - (ys.length+zs.length))).size:=by
   simp only [Array.size_append,Yxi,hzz,hol,hnl,<-Nat.add_mul]
   rw [show ys.length+zs.length+(YE w (ys.length+zs.length) cap e - (ys.length+zs.length))=YE w (ys.length+zs.length) cap e by omega]
   exact Nat.le_refl _
  have hrep:RepL (Rep { w with drawn:=w.drawn+1 } fz t) (ys++zs) ((old++new++Builtin.zeroCells (mkV t.isAgg (zeroCells t)).cells (YE w (ys.length+zs.length) cap e - (ys.length+zs.length))).toList.take ((ys++zs).length*t.size)) Z:=by
   have h1:=RepL.append hro hrn
   rw [YHu] at h1
   have e1:(old++new++Builtin.zeroCells (mkV t.isAgg (zeroCells t)).cells (YE w (ys.length+zs.length) cap e - (ys.length+zs.length))).toList.take ((ys++zs).length*t.size)=old.toList++new.toList:=by
    rw [Array.toList_append,Array.toList_append,You,Nat.add_mul,<-hol,<-hnl]
    rw [List.take_left' (by simp)]
   rw [e1]
   exact RepL.mono (R:=Rep w fz t) (fun x cs X h _=> Rep.frame (w:=w) (w':={ w with drawn:=w.drawn+1 }) (fz:=fz) (fun _ _=> rfl) (fun _ h=> h) t (fun _ _=> rfl) h) h1
  obtain ⟨m',g1,g2,g3,g4⟩:=(hZ.drawn (w.drawn+1)).newRow (r:=id) (t:=t) (xs:=ys++zs) (cs:=old++new++Builtin.zeroCells (mkV t.isAgg (zeroCells t)).cells (YE w (ys.length+zs.length) cap e - (ys.length+zs.length))) (el:=e) (fr:=(0,0))
   (cap:=YE w (ys.length+zs.length) cap e) hid hrep (by rw [You]; exact hge) hcap (Ym3 _ _ fun ht=> by
    subst ht
    have hs1:(Ty.int .i32).size=1:=rfl
    simp only [Array.size_append,Yxi,hzz,hol,hnl,hs1,Nat.mul_one]
    have:=Yfg w (need:=ys.length+zs.length) cap e (by omega)
    omega)
  refine ⟨_,_,m',hrun,g1,?_,trivial⟩
  rw [g3,You]
 rcases hv with ⟨hv,rfl,rfl⟩ | ⟨b,off,cap,c,el,fr,X',hv,h2,h3,h4,h5,h6,rfl⟩ | ⟨hv,_⟩
 rotate_right
 ·cases hv
 ·cases hv
  by_cases hz:zs=[]
  ·subst hz
   have hrun:=YVs (ty:=ty) h0 h1 hst he hxt hx1 (hnew w.drawn)
   obtain ⟨m',g1,g2⟩:=YM7 (v:=.slice none 0 0) (t:=t) (xs:=[]) h hid (.inl ⟨rfl,rfl,rfl⟩)
   exact ⟨_,_,m',hrun,g1,g2,trivial⟩
  ·have:0 < zs.length:=List.length_pos_iff.2 hz
   exact fresh none 0 #[] [] rfl (by simp; omega) (fun _=> rfl) ⟨rfl,rfl⟩ h
 ·cases hv
  have hin2:ys.length*t.size<=cap*t.size:=YTu _ h3
  by_cases hroom:ys.length+zs.length<=cap
  ·have hin:(ys.length+zs.length)*t.size<=cap*t.size:=YTu _ hroom
   rw [Nat.add_mul] at hin
   have hst':(storeCells ((⟨b,off,none⟩:Addr).add (ys.length*t.size)) new.toList).run P w=.ok () (World.setBlock w b (.cells (YH c (off+ys.length*t.size) new.toList) el fr)):=by
    rw [Yr3]
    have:=Yl6 (P:=P) new.toList 0 (off+ys.length*t.size) w c h2 h6.1 (by rw [hnl2]; omega) hnc
    simpa using this
   have hrun:=YTs (ty:=ty) h0 h1 hst he hxt hx1 (hnew w.drawn) hroom hst'
   have hsz:(YH c (off+ys.length*t.size) new.toList).size=c.size:=Yu5 (by rw [hnl2]; omega)
   have hk:=Yx8 w b (.cells (YH c (off+ys.length*t.size) new.toList) el fr) (b::X') (by simp)
   have h8:=h.step hk
   have hnb:∀ k,m.ω k=some .hand->k < w.heap.size:=fun k hk=> (h.own k _ hk).1
   have hX'b:b∉X':=(Yfv.1 h.hand.1).1
   have hfr:∀ k,fz k->(World.setBlock w b (.cells (YH c (off+ys.length*t.size) new.toList) el fr)).heap[k]? =w.heap[k]? :=fun k hk'=> Ys5 (fun e=> by subst e; exact h.fz_hand hk' (by simp))
   have hrep:Rep (World.setBlock w b (.cells (YH c (off+ys.length*t.size) new.toList) el fr)) fz (.sl true t) (ys++zs) [.slice (some ⟨b,off,none⟩) (ys.length+zs.length) cap] (b::X'):=by
    right
    left
    refine ⟨b,off,cap,_,el,fr,X',by rw [You],by rw [YB4,Yku rfl,Yku (Y73 h2)],by rw [You]; exact hroom,by rw [hsz]; exact h4,?_,by rw [hsz]; exact h6,rfl⟩
    have h1:=RepL.append h5 hrn
    rw [YHu] at h1
    rw [You,Nat.add_mul,Y0c (k:=ys.length*t.size) (by rw [hnl2]; omega) (by omega)]
    rw [Ysi (by omega),YPu (by simp only [Yl,Yyu,Yzu,hnl2]; omega),YHu]
    exact RepL.mono (R:=Rep w fz t) (fun x cs X h hX=> Rep.frame (w:=w) hfr (fun _ h=> h) t (fun k hk'=> Ys5 (fun e=> by subst e; exact hX'b (hX k hk'))) h) h1
   obtain ⟨m',g1,g2⟩:=YM7 h8 hid hrep
   exact ⟨_,_,m',hrun,g1,g2,trivial⟩
  ·have hold:∀ d,(Builtin.firstCells t.size ys.length (.slice (some ⟨b,off,none⟩) ys.length cap)).run P { w with drawn:=d }=.ok (Yl c off (ys.length*t.size)).toArray { w with drawn:=d }:=fun d=>
    Yk6 (w:={ w with drawn:=d }) h2 (by omega)
   exact fresh _ cap _ X' rfl (by omega) hold h5 (h.less (Yfv.1 h.hand.1).2 (fun k hk=> Y0v _ hk))
end
end Go.Abs
namespace Go.Abs
section
variable {X:List Nat} {w0:World} {X0:Ent} {a:Act} {w:World} {fz:Nat->Prop} {m:Maps} {s:St} {E:Env}
theorem YBq (w:World) (c:Array Value) (e:TypeId):(World.pushed w (.cells c e)).freeze ⟨w.heap.size,c.size,none⟩ 1=World.pushed w (.cells c e (c.size,c.size+1)):=by
 unfold World.freeze World.pushed
 rw [Yju (by omega)]
 congr 1
 apply Array.ext_getElem?
 intro k
 rw [Array.getElem?_modify]
 by_cases hk:w.heap.size=k
 ·subst hk
  simp
 ·rw [Yju hk,Array.getElem?_push,Array.getElem?_push,Yju (Ne.symm hk),Yju (Ne.symm hk)]
def YH1 (l:List UInt8) (cap:Nat):Array Value:=(l.map fun b:UInt8=> Value.int .u8 (b.toNat:Int)).toArray++Array.replicate (cap - l.length) (.int .u8 0)
theorem Yem (l:List UInt8) (cap:Nat):(YH1 l cap).size=l.length+(cap - l.length):=by simp [YH1]
theorem Yfm (l:List UInt8) (cap:Nat):(YH1 l cap).toList.take l.length=l.map fun b:UInt8=> Value.int .u8 (b.toNat:Int):=by
 rw [YH1,Array.toList_append]
 exact List.take_left' (by simp)
theorem Y1t {P:Program} {e:TypeId} {l:List UInt8} {cap:Nat} (hc:cap=YE w l.length 0 e):
  (Conv.stringToBytes e ⟨l.toArray⟩).run P w=.ok (.slice (some ⟨w.heap.size,0,none⟩) l.length cap)
   (World.pushed { w with drawn:=w.drawn+1 } (.cells (YH1 l cap) e
    ((YH1 l cap).size,(YH1 l cap).size+1))):=by
 subst hc
 have hsz:(⟨l.toArray⟩:ByteArray).size=l.length:=YL2 l
 unfold Conv.stringToBytes
 simp only [Sem.run_bind,run_choose,hsz,Question.forced,YSu,if_false,Result.andThen_ok,newRow,run_newObj,Sem.run_pure,markStringish,run_shape,List.map_toArray]
 have hg:Question.cut (.appendCap l.length 0 e) (w.tape w.drawn (.appendCap l.length 0 e))=YE w l.length 0 e:=rfl
 rw [hg,<-YBq]
 have hs:World.shape? { w with heap:=w.heap.push (.cells (YH1 l (YE w l.length 0 e)) e),drawn:=w.drawn+1 } w.heap.size=some (e,(YH1 l (YE w l.length 0 e)).size):=by
  simp [World.shape?]
 show ((match World.shape? { w with heap:=w.heap.push (.cells (YH1 l (YE w l.length 0 e)) e),drawn:=w.drawn+1 } w.heap.size with
  | some (_,n)=> (freeze ⟨w.heap.size,n,none⟩ 1:Sem Unit)
  | _=> pure ()).run P _).andThen _=_
 rw [hs]
 rfl
theorem Ygm (b:ByteArray):(⟨b.data.toList.toArray⟩:ByteArray)=b:=by cases b; rfl
theorem YOp {P:Program} (h:Rel w0 X0 fz m [] s a w) {src dst e:TypeId} {d1:TypeDesc} {l:List UInt8} {id:Nat} (hs:P.underlying src=some d1) (hd:P.underlying dst=some (.slice e)) (he:P.underlying e=some (.int .u8)) (hid:s.rows id=.none):
  ∃ z w' m',(convert src dst (.string ⟨l.toArray⟩)).run P w=.ok z w'/\Rel w0 X0 fz m' [] (s.setRow id (.mk (.int .u8) .live (YL l))) a w'/\m'.ρ id=z/\YZ z:=by
 have hrun:(convert src dst (.string ⟨l.toArray⟩)).run P w=(Conv.stringToBytes e ⟨l.toArray⟩).run P w:=by
  unfold convert
  simp only [Sem.run_bind,Yz hs,Yz hd,Result.andThen_ok]
  cases d1 <;> simp only [Sem.run_bind,Yz he,Result.andThen_ok]
 have hge:l.length<=YE w l.length 0 e:=Nat.le_add_right _ _
 have hl:(YL l).length=l.length:=by simp [YL]
 have hrep:RepL (Rep { w with drawn:=w.drawn+1 } fz (.int .u8)) (YL l) ((YH1 l (YE w l.length 0 e)).toList.take ((YL l).length*(Ty.int .u8).size)) []:=by
  have e1:((YH1 l (YE w l.length 0 e)).toList.take ((YL l).length*(Ty.int .u8).size))=l.map fun b:UInt8=> Value.int .u8 (b.toNat:Int):=by
   rw [hl]
   show List.take (l.length*1) _=_
   rw [Nat.mul_one,Yfm]
  rw [e1]
  exact Yfe l
 obtain ⟨m',g1,g2,g3,g4⟩:=(h.drawn (w.drawn+1)).newRow (r:=id) (t:=.int .u8) (xs:=YL l) (cs:=YH1 l (YE w l.length 0 e)) (el:=e)
  (fr:=((YH1 l (YE w l.length 0 e)).size,(YH1 l (YE w l.length 0 e)).size+1))
  (cap:=YE w l.length 0 e) hid hrep (by rw [hl]; exact hge) (by show _*1<=_; rw [Yem]; omega) ⟨fun o ho hh=> by omega,fun h=> absurd rfl h,fun h=> by cases h⟩
 refine ⟨_,_,m',hrun.trans (Y1t rfl),g1,?_,trivial⟩
 rw [g3,hl]
theorem YYh (s:ByteArray):∀ (n i:Nat) (acc:Array Value),(∀ v∈acc.toList,∃ k,v=.int .i32 k)->∀ v∈(Conv.runesFrom s n i acc).toList,∃ k,v=.int .i32 k
 | 0,_,acc,h=> h
 | n+1,i,acc,h=> by
  unfold Conv.runesFrom
  split
  ·refine YYh s n _ _ ?_
   intro v hv
   rw [Array.toList_push,YAu] at hv
   rcases hv with hv | hv
   ·exact h v hv
   ·rw [YNu] at hv; exact ⟨_,hv⟩
  ·exact h
theorem Yxg {k:IntKind}:∀ (l:List Int),RepL (Rep w fz (.int k)) l (l.map fun n=> Value.int k n) []
 | []=> ⟨rfl,rfl⟩
 | n::l=> ⟨[_],_,[],[],rfl,rfl,⟨rfl,rfl⟩,Yxg l⟩
theorem Y2i (l:List UInt8):(Conv.runesFrom ⟨l.toArray⟩ l.length 0 #[]).toList=(YD l).map fun n=> Value.int .i32 n:=by
 have h:=YYh ⟨l.toArray⟩ l.length 0 #[] (fun v hv=> by cases hv)
 unfold YD
 rw [Array.toList_map,List.map_map]
 generalize (Conv.runesFrom ⟨l.toArray⟩ l.length 0 #[]).toList=vs at h
 have:∀ vs:List Value,(∀ v∈vs,∃ k,v=.int .i32 k)->vs=vs.map ((fun n=> Value.int .i32 n)∘fun | .int _ n=> n | _=> 0):=by
  intro vs
  induction vs with
  | nil=> intro _; rfl
  | cons v vs ih=>
   intro h
   obtain ⟨k,rfl⟩:=h v (by simp)
   rw [YBu,<-ih (fun v hv=> h v (Y0v _ hv))]
   rfl
 exact this vs h
theorem YZh (s:ByteArray):∀ (n i:Nat) (acc:Array Value),(Conv.runesFrom s n i acc).size<=acc.size+n
 | 0,_,acc=> by unfold Conv.runesFrom; exact Nat.le_refl _
 | n+1,i,acc=> by
  unfold Conv.runesFrom
  split
  ·rename_i h
   have:=YZh s n
   refine Nat.le_trans (this _ _) ?_
   rw [Array.size_push]; omega
  ·omega
theorem Y9t (l:List UInt8):(YD l).length<=l.length:=by
 have:=YZh ⟨l.toArray⟩ l.length 0 #[]
 unfold YD
 rw [YYu,Array.size_map]
 simpa using this
theorem YPp {P:Program} (h:Rel w0 X0 fz m [] s a w) {src dst e:TypeId} {d1:TypeDesc} {l:List UInt8} {id:Nat} (hs:P.underlying src=some d1) (hd:P.underlying dst=some (.slice e)) (he:P.underlying e=some (.int .i32)) (hid:s.rows id=.none) (hlim:l.length<=lim):
  ∃ z w' m',(convert src dst (.string ⟨l.toArray⟩)).run P w=.ok z w'/\Rel w0 X0 fz m' [] (s.setRow id (.mk (.int .i32) .live (YD l))) a w'/\m'.ρ id=z/\YZ z:=by
 have hsz:(⟨l.toArray⟩:ByteArray).size=l.length:=YL2 l
 have hln:(Conv.runesFrom ⟨l.toArray⟩ l.length 0 #[]).size=(YD l).length:=by rw [<-YYu,Y2i,YVu]
 have hrun:(convert src dst (.string ⟨l.toArray⟩)).run P w=.ok (.slice (some ⟨w.heap.size,0,none⟩) (YD l).length (YE w (YD l).length 0 e))
   (World.pushed { w with drawn:=w.drawn+1 } (.cells (Conv.runesFrom ⟨l.toArray⟩ l.length 0 #[]++Array.replicate (YE w (YD l).length 0 e - (YD l).length) (Value.int .i32 0)) e)):=by
  unfold convert
  simp only [Sem.run_bind,Yz hs,Yz hd,Result.andThen_ok]
  have:(Conv.stringToRunes e ⟨l.toArray⟩).run P w=.ok (.slice (some ⟨w.heap.size,0,none⟩) (YD l).length (YE w (YD l).length 0 e))
   (World.pushed { w with drawn:=w.drawn+1 } (.cells (Conv.runesFrom ⟨l.toArray⟩ l.length 0 #[]++Array.replicate (YE w (YD l).length 0 e - (YD l).length) (Value.int .i32 0)) e)):=by
   unfold Conv.stringToRunes
   simp only [Sem.run_bind,run_choose,hsz,hln,Question.forced,YSu,if_false,Result.andThen_ok,newRow,run_newObj,Sem.run_pure]
   rfl
  cases d1 <;> simp only [Sem.run_bind,Yz he,Result.andThen_ok,this]
 have hge:(YD l).length<=YE w (YD l).length 0 e:=Nat.le_add_right _ _
 have hrep:RepL (Rep { w with drawn:=w.drawn+1 } fz (.int .i32)) (YD l) ((Conv.runesFrom ⟨l.toArray⟩ l.length 0 #[]++Array.replicate (YE w (YD l).length 0 e - (YD l).length) (Value.int .i32 0)).toList.take ((YD l).length*(Ty.int .i32).size)) []:=by
  have e1:((Conv.runesFrom ⟨l.toArray⟩ l.length 0 #[]++Array.replicate (YE w (YD l).length 0 e - (YD l).length) (Value.int .i32 0)).toList.take ((YD l).length*(Ty.int .i32).size))=(YD l).map fun n=> Value.int .i32 n:=by
   show List.take (_*1) _=_
   rw [Nat.mul_one,Array.toList_append,Y2i]
   exact List.take_left' (by simp)
  rw [e1]
  exact Yxg _
 obtain ⟨m',g1,g2,g3,g4⟩:=(h.drawn (w.drawn+1)).newRow (r:=id) (t:=.int .i32) (xs:=YD l) (cs:=Conv.runesFrom ⟨l.toArray⟩ l.length 0 #[]++Array.replicate (YE w (YD l).length 0 e - (YD l).length) (Value.int .i32 0)) (el:=e) (fr:=(0,0))
  (cap:=YE w (YD l).length 0 e) hid hrep hge (by show _*1<=_; simp [hln]; omega) (Ym3 _ _ fun _=> by
   simp only [Array.size_append,Array.size_replicate,hln]
   have h1:=Y9t l
   have:=Yfg w (need:=(YD l).length) 0 e (by unfold lim at hlim; omega)
   omega)
 exact ⟨_,_,m',hrun,g1,g3,trivial⟩
theorem YMa {k:IntKind}:∀ {l:List Int} {cs:List Value} {Z:List Nat},RepL (Rep w fz (.int k)) l cs Z->cs=l.map fun n=> Value.int k n
 | [],cs,Z,h=> h.1
 | n::l,cs,Z,h=> by
  obtain ⟨c1,c2,X1,X2,rfl,rfl,⟨rfl,_⟩,h2⟩:=h
  rw [YMa h2]; rfl
theorem Yps (ns:List Int):∀ r:ByteArray,ns.foldl (fun r n=> r.push (UInt8.ofNat n.toNat)) r=⟨(r.data.toList++Yn ns).toArray⟩:=by
 induction ns with
 | nil=> intro r; simp [Yn]
 | cons n ns ih=>
  intro r
  rw [List.foldl_cons,ih]
  simp [Yn,ByteArray.push]
theorem Yat (ns:List Int):∀ r:ByteArray,ns.foldl (fun r n=> r++Utf8.encode n) r=⟨(r.data.toList++YT2 ns).toArray⟩:=by
 induction ns with
 | nil=> intro r; simp [YT2]
 | cons n ns ih=>
  intro r
  rw [List.foldl_cons,ih]
  simp [YT2,Yy1]
theorem YQp (hE:EnvOK E) (h:Rel w0 X0 fz m [] s a w) {src dst d:Nat} {o:Bool} {e:Ty} {p:PV} {v:Value} {s':St} (hs:E.ty src=some (.sl o e)) (hd:E.ty dst=some .str) (hv:RepS w fz m s p v) (hc:Yh4 s d e p=some s'):
  ∃ z q,(convert src dst v).run E.P w=.ok z w/\s'=s.put d q/\RepS w fz m s q z:=by
 obtain ⟨_,el,hus,hel⟩:=hE.ty src _ hs
 obtain ⟨_,hud⟩:=hE.ty dst _ hd
 unfold Yh4 at hc
 split at hc
 ·split at hc
  ·rename_i xs hx
   cases hc
   have hee:E.P.underlying el=some (.int .u8):=hel.2
   rcases Yua h hv hx with ⟨_,⟨rfl,rfl⟩ | ⟨b,rfl,rfl⟩ | ⟨b,off,cap,c,el',fr,rfl,h1,h2,h3,h4⟩⟩ | ⟨rfl,rfl⟩
   ·refine ⟨_,_,?_,rfl,Y12 _⟩
    rw [run_convert_bytes_string w src dst el _ _ _ hus hee hud]; rfl
   ·refine ⟨_,_,?_,rfl,Y12 _⟩
    rw [run_convert_bytes_string w src dst el _ _ _ hus hee hud]
    exact run_bytesToString w b 0 0 [] (run_loadCells_list (P:=E.P) w b [] (fun j v hj=> by simp at hj))
   ·have hcs:=YMa h4
    refine ⟨_,_,?_,rfl,Y12 _⟩
    have h2':xs.length*(Ty.int .u8).size<=cap*(Ty.int .u8).size:=YTu _ h2
    rw [run_convert_bytes_string w src dst el _ _ _ hus hee hud,run_bytesToString w _ _ cap xs (by
     have:=Yk6 (P:=E.P) (off:=off) (n:=xs.length*(Ty.int .u8).size) h1 (by omega)
     rw [hcs] at this
     rw [show xs.length*(Ty.int .u8).size=xs.length from Nat.mul_one _] at this
     exact this)]
    rw [Yps]
    rfl
   ·refine ⟨_,_,?_,rfl,Y12 _⟩
    rw [run_convert_bytes_string w src dst el _ _ _ hus hee hud]; rfl
  ·cases hc
 ·split at hc
  ·rename_i xs hx
   cases hc
   have hee:E.P.underlying el=some (.int .i32):=hel.2
   rcases Yua h hv hx with ⟨_,⟨rfl,rfl⟩ | ⟨b,rfl,rfl⟩ | ⟨b,off,cap,c,el',fr,rfl,h1,h2,h3,h4⟩⟩ | ⟨rfl,rfl⟩
   ·refine ⟨_,_,?_,rfl,Y12 _⟩
    rw [run_convert_runes_string w src dst el _ _ _ hus hee hud]; rfl
   ·refine ⟨_,_,?_,rfl,Y12 _⟩
    rw [run_convert_runes_string w src dst el _ _ _ hus hee hud]
    exact run_runesToString w b 0 0 [] (run_loadCells_list (P:=E.P) w b [] (fun j v hj=> by simp at hj))
   ·have hcs:=YMa h4
    refine ⟨_,_,?_,rfl,Y12 _⟩
    have h2':xs.length*(Ty.int .i32).size<=cap*(Ty.int .i32).size:=YTu _ h2
    rw [run_convert_runes_string w src dst el _ _ _ hus hee hud,run_runesToString w _ _ cap xs (by
     have:=Yk6 (P:=E.P) (off:=off) (n:=xs.length*(Ty.int .i32).size) h1 (by omega)
     rw [hcs] at this
     rw [show xs.length*(Ty.int .i32).size=xs.length from Nat.mul_one _] at this
     exact this)]
    unfold runesBytes
    rw [Yat]
    rfl
   ·refine ⟨_,_,?_,rfl,Y12 _⟩
    rw [run_convert_runes_string w src dst el _ _ _ hus hee hud]; rfl
  ·cases hc
 ·cases hc
end
end Go.Abs
namespace Go.Abs
theorem Yag:∀ (vs:List Value) (off j:Nat) (c:Array Value),off+j+vs.length<=c.size->
  (vs.zipIdx j).foldl (fun (cs:Array Value) (x:Value×Nat)=> cs.setIfInBounds (off+x.2) x.1) c=YH c (off+j) vs
 | [],off,j,c,_=> by simp [YNb]
 | v::vs,off,j,c,h=> by
  rw [List.zipIdx_cons,List.foldl_cons,Yag vs off (j+1) _ (by simp at h ⊢; omega),<-Nat.add_assoc,Y9i (by simp at h; omega)]
theorem Y0g {place:Nat->Option (Nat×Nat)} {i off size:Nat} {v:Value} {rest:List (Nat×Value)} {c:Array Value} (hp:place i=some (off,size)) (hv:v.cells.size=size) (hin:off+size<=c.size):
  Instr.fill place c ((i,v)::rest)=Instr.fill place (YH c off v.cells.toList) rest:=by
 rw [Instr.fill,hp]
 have h1:(v.cells.size≠size||decide (off+v.cells.size > c.size))=false:=by
  rw [hv]; simp; omega
 simp only [h1,YSu,if_false]
 congr 1
 have:=Yag v.cells.toList off 0 c (by rw [YYu,hv]; omega)
 rw [Nat.add_zero] at this
 rw [<-this,<-Array.foldl_toList,Array.toList_zipIdx]
section
variable {X:List Nat} {w0:World} {X0:Ent} {a:Act} {w:World} {fz:Nat->Prop} {m:Maps} {s:St} {E:Env}
theorem YRh {P:Program}:∀ (fs:List Field) (ps:List (Nat×Nat)),(∀ (i:Nat) (f:Field),fs[i]? =some f->∃ n,(∀ w,(sizeOf f.type).run P w=.ok n w)/\ps[i]? =some (f.offset,n))->ps.length=fs.length->
  (fs.mapM (fun (f:Field)=> do pure (f.offset,<-sizeOf f.type)):Sem (List (Nat×Nat))).run P w=.ok ps w
 | [],ps,_,hl=> by
  have:ps=[]:=YRu hl
  subst this; rfl
 | f::fs,[],_,hl=> by simp at hl
 | f::fs,p::ps,h,hl=> by
  obtain ⟨n,h1,h2⟩:=h 0 f rfl
  simp only [List.getElem?_cons_zero,Ytu] at h2
  subst h2
  have ih:=YRh fs ps (fun i g hg=> h (i+1) g hg) (by simpa using hl)
  rw [List.mapM_cons]
  simp only [Sem.run_bind,h1,Result.andThen_ok,Sem.run_pure,ih]
theorem Ylb {t:TypeId} {u:Ty} {place:Nat->Option (Nat×Nat)} (hpl:∀ f,Yb6 u (E.nf t) f=true->u.ok (Yk2 u (E.nf t) f)/\place f=some (u.off (Yk2 u (E.nf t) f),(u.at (Yk2 u (E.nf t) f)).size)/\((u.at (Yk2 u (E.nf t) f)).isAgg=false->(u.at (Yk2 u (E.nf t) f)).size=1))
  {Y:List Nat} (h:Rel w0 X0 fz m Y s a w) (hg:Glob E w fz):∀ (l:List (Nat×Operand)) (p q:PV) (cs:Array Value),YZ2 E t u s l p=some q->RepP w fz m s p cs.toList->fits u p=true->
  ∃ cs',Instr.fill place cs (l.map fun x=> (x.1,a.eval x.2))=some cs'/\RepP w fz m s q cs'.toList/\fits u q=true
 | [],p,q,cs,hb,hp,hf=> by
  simp only [YZ2,Ytu] at hb
  subst hb
  exact ⟨cs,rfl,hp,hf⟩
 | (f,x)::l,p,q,cs,hb,hp,hf=> by
  simp only [YZ2] at hb
  cases hfit:(Yb6 u (E.nf t) f&&fits (u.at (Yk2 u (E.nf t) f)) (s.opd E x)) with
  | false=> rw [hfit] at hb; cases hb
  | true=>
   rw [hfit,Ygu] at hb
   simp only [Ylu] at hfit
   obtain ⟨hpo,hfit⟩:=hfit
   split at hb
   ·rename_i p' hset
    obtain ⟨hok,hplace,hag⟩:=hpl f hpo
    have hx:=h.opd hg x
    have hs2:=YW hfit
    obtain ⟨vs,hq,hxv⟩:∃ vs,RepP w fz m s (s.opd E x) vs/\a.eval x=mkV (s.opd E x).isAgg vs:=by
     rcases hx.cells with e | e | ⟨_,_,e⟩ | hx
     ·rw [e] at hfit; simp [fits] at hfit
     ·rw [e] at hfit; simp [fits] at hfit
     ·rw [e] at hfit; simp [fits] at hfit
     ·exact hx
    have hvl:=hq.size
    obtain ⟨k1,k2⟩:=hp.set hok hf hq hfit hset
    have hle:=Ty.off_le hok
    have hsz:=hp.size
    rw [(YW hf).2,YYu] at hsz
    have he:(u.at (Yk2 u (E.nf t) f)).size=vs.length:=by rw [hvl,hs2.2]
    rw [he,<-YQ3] at k1
    obtain ⟨cs',g1,g2,g3⟩:=Ylb hpl h hg l p' q (YH cs (u.off (Yk2 u (E.nf t) f)) vs) hb k1 k2
    refine ⟨cs',?_,g2,g3⟩
    have hone:(s.opd E x).isAgg=false->vs.length=1:=fun ha=> by rw [<-he]; exact hag (hs2.1▸ ha)
    have hcells:(a.eval x).cells.toList=vs:=by
     rw [hxv]
     exact Yg4 hq.cells hone
    rw [YBu,Y0g hplace (by rw [<-YYu,hcells,he]) (by omega),hcells]
    exact g1
   ·cases hb
theorem Y3e {n:Nat} {e:Ty} {f:Nat}:Ty.at (.arr n e) [.idx f]=e:=Ty.at_nil e
theorem YOr {n:Nat} {e:Ty} {f:Nat}:Ty.off (.arr n e) [.idx f]=f*e.size:=by simp [Ty.off,Ty.off_nil]
theorem Y8e {a b:Nat} (h:Nat.ble (a+1) b=true):a < b:=Nat.le_of_ble_eq_true h
theorem Ydm (hE:EnvOK E) {Y:List Nat} (h:Rel w0 X0 fz m Y s a w) (hg:Glob E w fz) {t:TypeId} {u:Ty} {l:List (Nat×Operand)} {q:PV} (ht:E.ty t=some u) (hz:fits u (Y31 u)=true) (hb:YZ2 E t u s l (Y31 u)=some q) (hq:fits u q=true) (hagg:u.isAgg=true):
  ∃ z,(Instr.build t (l.map fun x=> (x.1,a.eval x.2)).toArray).run E.P w=.ok z w/\RepS w fz m s q z:=by
 have hty:=hE.ty t u ht
 have hzc:(mkV u.isAgg (zeroCells u)).cells.toList=zeroCells u:=Yg4 Y3c (fun ha=> by rw [Y04,hty.one ha])
 have hz0:RepP w fz m s (Y31 u) (mkV u.isAgg (zeroCells u)).cells.toList:=by rw [hzc]; exact Ywi hz
 have fin:∀ {cs':Array Value},RepP w fz m s q cs'.toList->RepS w fz m s q (.agg cs'):=fun hc=> hc.toS (by rw [(YW hq).1,hagg]; rfl)
 cases u with
 | st A=>
  obtain ⟨_,fs,hu,_⟩:=id hty
  have hpart:∀ f,Yb6 (.st A) (E.nf t) f=true->∃ fd,fs[f]? =some fd:=fun f hf=> by
   have:f < fs.size:=by rw [<-hE.nf t fs hu]; exact Y8e hf
   exact ⟨_,Y1v this⟩
  obtain ⟨cs',g1,g2,g3⟩:=Ylb (place:=fun i=> ((fs.toList.zipIdx.map fun x=> (x.1.offset,(Ty.at (.st A) (.inn::Y41 (E.nf t) x.2)).size)).toArray)[i]?) (fun f hf=> by
   obtain ⟨fd,hfd⟩:=hpart f hf
   obtain ⟨k1,k2,k3,k4⟩:=YA8 hE hty hu hfd
   refine ⟨k1,?_,k3.one⟩
   have hfd':fs.toList[f]? =some fd:=by rw [Y4v]; exact hfd
   simp only [List.getElem?_toArray,List.getElem?_map,List.getElem?_zipIdx,hfd',Option.map_some,Y2v]
   rw [k2]; rfl) h hg l (Y31 (.st A)) q _ hb hz0 hz
  refine ⟨_,?_,fin g2⟩
  have hpl:=YRh (P:=E.P) (w:=w) fs.toList (fs.toList.zipIdx.map fun x=> (x.1.offset,(Ty.at (.st A) (.inn::Y41 (E.nf t) x.2)).size)) (fun i f hf=> by
   have hf':fs[i]? =some f:=by rw [<-Y4v]; exact hf
   obtain ⟨k1,k2,k3,k4⟩:=YA8 hE hty hu hf'
   refine ⟨_,fun w=> k3.sizeOf w,?_⟩
   simp only [List.getElem?_map,List.getElem?_zipIdx,hf,Option.map_some,Y2v]) (by simp)
  unfold Instr.build
  simp only [Sem.run_bind,hty.zeroValue,Result.andThen_ok,Yz hu]
  rw [Array.mapM_eq_mapM_toList]
  simp only [Sem.run_map,hpl,Result.andThen_ok,g1,Sem.run_pure]
 | arr n e=>
  obtain ⟨_,el,hu,hel⟩:=id hty
  have hel':TyOK E.P e el:=hel
  obtain ⟨cs',g1,g2,g3⟩:=Ylb (place:=fun i=> some (i*e.size,e.size)) (fun f hf=> by
   refine ⟨.idx (Y8e hf) (.nil _),?_,?_⟩
   ·show some (f*e.size,e.size)=some (Ty.off (.arr n e) [.idx f],(Ty.at (.arr n e) [.idx f]).size)
    rw [Y3e,YOr]
   ·show (Ty.at (.arr n e) [.idx f]).isAgg=false->(Ty.at (.arr n e) [.idx f]).size=1
    rw [Y3e]; exact hel'.one) h hg l (Y31 (.arr n e)) q _ hb hz0 hz
  refine ⟨_,?_,fin g2⟩
  unfold Instr.build
  simp only [Sem.run_bind,hty.zeroValue,Result.andThen_ok,Yz hu,hel'.sizeOf,g1,Sem.run_pure]
 | _=> cases hagg
end
end Go.Abs
namespace Go.Abs
theorem YAs (zero:Array Value) (k:Nat) (hk:zero.size=k):∀ c:Nat,((Array.range (c*k)).map (fun i=> zero[i % zero.size]!)).toList=(List.replicate c zero.toList).flatten:=by
 intro c
 have base:(List.range k).map (fun i=> zero[i % k]!)=zero.toList:=by
  apply List.ext_getElem
  ·simp [hk]
  ·intro i h1 h2
   simp at h1
   simp [Nat.mod_eq_of_lt h1,hk▸ h1]
 have key:∀ c:Nat,(List.range (c*k)).map (fun i=> zero[i % k]!)=(List.replicate c zero.toList).flatten:=by
  intro c
  induction c with
  | zero=> simp
  | succ c ih=>
   rw [Nat.succ_mul,Nat.add_comm,List.range_add,List.map_append,base,List.map_map,List.replicate_succ,List.flatten_cons,<-ih]
   congr 1
   apply List.map_congr_left
   intro i _
   simp
 rw [Array.toList_map,Array.toList_range,hk]
 exact key c
section
variable {X:List Nat} {w0:World} {X0:Ent} {a:Act} {w:World} {fz:Nat->Prop} {m:Maps} {s:St} {E:Env}
theorem Y5c {P:Program} {u:Ty} {e:TypeId} (he:TyOK P u e):(mkV u.isAgg (zeroCells u)).cells.toList=zeroCells u:=Yg4 Y3c (fun ha=> by rw [Y04,he.one ha])
theorem YQs {P:Program} {u:Ty} {e:TypeId} (he:TyOK P u e) (c:Nat) (z:Array Value) (hz:z=if c*u.size=0 then #[] else (mkV u.isAgg (zeroCells u)).cells):((Array.range (c*u.size)).map (fun i=> z[i % z.size]!)).toList=(List.replicate c (zeroCells u)).flatten:=by
 by_cases h0:c*u.size=0
 ·rw [h0]
  have:(List.replicate c (zeroCells u)).flatten=[]:=by
   apply YRu
   simp [Y04,h0]
  rw [this]; simp
 ·rw [Yju h0] at hz
  subst hz
  have hs:(mkV u.isAgg (zeroCells u)).cells.size=u.size:=by rw [<-YYu,Y5c he,Y04]
  have:=YAs (mkV u.isAgg (zeroCells u)).cells u.size hs c
  rw [Y5c he] at this
  exact this
theorem YDr {P:Program} (h:Rel w0 X0 fz m [] s a w) {st e:TypeId} {u:Ty} {n c:Int} {j k:IntKind} {id:Nat} (hst:P.underlying st=some (.slice e)) (he:TyOK P u e) (hz:u.zok=true) (h1:0<=n) (h2:n<=c) (h3:c<=2 ^ 32) (hid:s.rows id=.none):
  ∃ z w' m',(Instr.makeSlice st (.int j n) (.int k c)).run P w=.ok z w'/\Rel w0 X0 fz m' [] (s.setRow id (.mk u .live (List.replicate n.toNat u.zero))) a w'/\m'.ρ id=z/\YZ z:=by
 obtain ⟨i,hi1,hi2,hi3,hi4⟩:=he.info
 have wrapc:IntKind.i64.wrap c=c:=by rw [IntKind.wrap_i64]; omega
 have wrapn:IntKind.i64.wrap n=n:=by rw [IntKind.wrap_i64]; omega
 have big:¬((i.bytes:Int)*c > 2 ^ 48):=by
  have:(i.bytes:Int)*c<=4096*2 ^ 32:=Int.mul_le_mul (by omega) h3 (by omega) (by omega)
  omega
 have hcn:(c.toNat:Nat)=c.toNat:=rfl
 let z:Array Value:=if c.toNat*u.size=0 then #[] else (mkV u.isAgg (zeroCells u)).cells
 let cs:Array Value:=(Array.range (c.toNat*u.size)).map (fun i=> z[i % z.size]!)
 have hrun:(Instr.makeSlice st (.int j n) (.int k c)).run P w=.ok (.slice (some ⟨w.heap.size,0,none⟩) n.toNat c.toNat) (World.pushed w (.cells cs e)):=by
  have hc0:¬c < 0:=by omega
  have hn0:¬n < 0:=by omega
  have hnc:¬n > c:=by omega
  unfold Instr.makeSlice
  simp only [Sem.run_bind,Yz hst,Result.andThen_ok,asInt,asIntOf,Sem.run_pure,Yt8 hi1,wrapc,wrapn,Yxu,Bool.or_eq_true,hc0,hn0,hnc,big,or_self,if_false,run_askRoom,he.sizeOf]
  by_cases h0:c.toNat*u.size=0
  ·simp only [h0,if_true,Sem.run_pure,Result.andThen_ok,newRow,Sem.run_bind,run_newObj]
   simp only [cs,z,h0,if_true]
   rfl
  ·simp only [h0,if_false,Sem.run_bind,he.zeroValue,Sem.run_pure,Result.andThen_ok,newRow,run_newObj]
   simp only [cs,z,h0,if_false]
   rfl
 have hcl:cs.toList=(List.replicate c.toNat (zeroCells u)).flatten:=YQs he c.toNat z rfl
 have hcs:cs.size=c.toNat*u.size:=by rw [<-YYu,hcl]; simp [Y04]
 have hle:n.toNat<=c.toNat:=by omega
 have hrep:RepL (Rep w fz u) (List.replicate n.toNat u.zero) (cs.toList.take ((List.replicate n.toNat u.zero).length*u.size)) []:=by
  have:=RepL.replicate (Yyi (w:=w) (fz:=fz) hz) n.toNat
  have e1:cs.toList.take ((List.replicate n.toNat u.zero).length*u.size)=(List.replicate n.toNat (zeroCells u)).flatten:=by
   rw [hcl,List.length_replicate]
   have:List.replicate c.toNat (zeroCells u)=List.replicate n.toNat (zeroCells u)++List.replicate (c.toNat - n.toNat) (zeroCells u):=by
    rw [List.replicate_append_replicate]; congr 1; omega
   rw [this,List.flatten_append]
   exact List.take_left' (by simp [Y04])
  rw [e1]; exact this
 obtain ⟨m',g1,g2,g3,g4⟩:=h.newRow (r:=id) (el:=e) (fr:=(0,0)) (cap:=c.toNat) hid hrep (by rw [List.length_replicate]; exact hle) (by rw [hcs]; exact Nat.le_refl _) (Ym3 _ _ fun h=> by subst h; rw [hcs]; show c.toNat*1<=_; omega)
 refine ⟨_,_,m',hrun,g1,?_,trivial⟩
 rw [g3,List.length_replicate]
theorem Yyt {c:Array Value} {off:Nat} {vs ws:List Value} (h:off+vs.length<=c.size):YH (YH c off vs) (off+vs.length) ws=YH c off (vs++ws):=by
 apply Array.ext'
 rw [YQ3,YQ3,YQ3]
 have hl:c.toList.length=c.size:=YYu
 have e1:(c.toList.take off++vs).length=off+vs.length:=by rw [You,Yyu,Nat.min_eq_left (by omega)]
 rw [List.take_left' e1,List.drop_append,YPu (by rw [e1]; omega),YIu,e1,List.drop_drop,Ypu,Ypu,Ypu,Ypu,You]
 congr 3
 congr 1
 omega
theorem YTf {u:Ty} {e:TypeId} (he:TyOK E.P u e):∀ (l:List (Nat×Operand)) {fz:Nat->Prop} {m:Maps} {Y:List Nat} {s:St} {i:Nat} {ys:List u.den} {s':St},Rel w0 X0 fz m Y s a w->Glob E w fz->Yo2 E u s l i=some (ys,s')->
  ∃ fz' ω' Z cs,Rel w0 X0 fz' { m with ω:=ω' } (Z++Y) s' a w/\(∀ b,fz b->fz' b)/\RepL (Rep w fz' u) ys cs Z/\ys.length=l.length/\
   ∀ c:Array Value,(i+l.length)*u.size<=c.size->Instr.fill (fun i=> some (i*u.size,u.size)) c (l.map fun x=> (x.1,a.eval x.2))=some (YH c (i*u.size) cs)
 | [],fz,m,Y,s,i,ys,s',h,hg,hb=> by
  simp only [Yo2,Ytu,YJu] at hb
  obtain ⟨rfl,rfl⟩:=hb
  exact ⟨fz,m.ω,[],[],h,fun _ h=> h,⟨rfl,rfl⟩,rfl,fun c _=> by rw [YNb]; rfl⟩
 | (j,x)::l,fz,m,Y,s,i,ys,s',h,hg,hb=> by
  simp only [Yo2] at hb
  cases hj:Nat.beq i j with
  | false=> rw [hj] at hb; cases hb
  | true=>
   rw [hj,Ygu] at hb
   have hj:=YOu hj
   subst hj
   split at hb
   ·rename_i y s1 hy
    split at hb
    ·rename_i ys1 s2 hys
     cases hb
     obtain ⟨cs1,h2,hv⟩:=(h.opd hg x).ofDen hy
     obtain ⟨fz1,ω1,ωK1,sK1,X1,A1,r1⟩:=Yi3 u (m:=m) (ω:=m.ω) (ωK:=m.ω) h h (Par.refl s) (fun _ h=> h) h2 hy
     obtain ⟨fz2,ω2,Z2,cs2,k1,k2,k3,k4,k5⟩:=YTf he l A1.rel (hg.frame (fun _ _=> rfl) A1.fzs) hys
     have hlen:=r1.length
     refine ⟨fz2,ω2,X1++Z2,cs1++cs2,?_,fun b hb=> k2 b (A1.fzs b hb),?_,by simp [k4],?_⟩
     ·refine k1.perm ?_
      rw [<-Ypu]; exact List.Perm.append_right _ List.perm_append_comm
     ·exact ⟨cs1,cs2,X1,Z2,rfl,rfl,Rep.frame (fun _ _=> rfl) k2 u (fun _ _=> rfl) r1,k3⟩
     ·intro c hc
      rw [Ynu] at hc
      have hcells:(a.eval x).cells.toList=cs1:=by
       rw [hv,YU3 hy]
       exact Yg4 r1.cells (fun ha=> by rw [hlen,he.one ha])
      have hin:(i+1)*u.size<=(i+(l.length+1))*u.size:=YTu _ (by omega)
      rw [Nat.succ_mul] at hin
      have fo:=Y0g (place:=fun i=> some (i*u.size,u.size)) (i:=i) (off:=i*u.size) (size:=u.size) (v:=a.eval x) (rest:=l.map fun x=> (x.1,a.eval x.2)) (c:=c) rfl (by rw [<-YYu,hcells,hlen]) (by omega)
      have e2:(i+1)*u.size=i*u.size+cs1.length:=by rw [Nat.succ_mul,hlen]
      rw [YBu]
      refine fo.trans ?_
      rw [hcells]
      have hsp:(YH c (i*u.size) cs1).size=c.size:=Yu5 (by omega)
      rw [k5 _ (by rw [hsp,show i+1+l.length=i+(l.length+1) by omega]; exact hc),e2,Yyt (by rw [hlen]; omega)]
    ·cases hb
   ·cases hb
theorem Ycm (h:Rel w0 X0 fz m [] s a w) (hg:Glob E w fz) {st e:TypeId} {u:Ty} {l:List (Nat×Operand)} {ys:List u.den} {s1:St} {id:Nat} (hst:E.P.underlying st=some (.slice e)) (he:TyOK E.P u e) (hb:Yo2 E u s l 0=some (ys,s1)) (hlen:l.length*u.size<=2 ^ 24) (hid:s1.rows id=.none):
  ∃ z w' fz' m',(Instr.buildSlice st l.length (l.map fun x=> (x.1,a.eval x.2)).toArray).run E.P w=.ok z w'/\Rel w0 X0 fz' m' [] (s1.setRow id (.mk u .live ys)) a w'/\m'.ρ id=z/\YZ z:=by
 obtain ⟨fz',ω',Z,cs,k1,k2,k3,k4,k5⟩:=YTf he l h hg hb
 let z:Array Value:=if l.length*u.size=0 then #[] else (mkV u.isAgg (zeroCells u)).cells
 let c0:Array Value:=(Array.range (l.length*u.size)).map (fun i=> z[i % z.size]!)
 have hc0:c0.size=l.length*u.size:=by simp [c0]
 have hfill:=k5 c0 (by rw [hc0,Y2v]; exact Nat.le_refl _)
 rw [Nat.zero_mul] at hfill
 have hcl:cs.length=l.length*u.size:=by rw [RepL.length (fun x cs X h=> Rep.length u h) k3,k4]
 have hsp:(YH c0 0 cs).toList=cs:=by
  rw [YQ3,List.take_zero,YIu,YPu (by rw [YYu,hc0]; omega),YHu]
 have hrun:(Instr.buildSlice st l.length (l.map fun x=> (x.1,a.eval x.2)).toArray).run E.P w=.ok (.slice (some ⟨w.heap.size,0,none⟩) l.length l.length) (World.pushed w (.cells (YH c0 0 cs) e)):=by
  have hb24:¬(l.length*u.size > 2 ^ 24):=by omega
  unfold Instr.buildSlice
  simp only [Sem.run_bind,Yz hst,Result.andThen_ok,he.sizeOf,Yju hb24,Sem.run_pure]
  by_cases h0:l.length*u.size=0
  ·simp only [h0,if_true,Sem.run_pure,Result.andThen_ok]
   have:c0=(Array.range 0).map (fun i=> (#[]:Array Value)[i % (#[]:Array Value).size]!):=by simp only [c0,z,h0,if_true]
   rw [this] at hfill ⊢
   simp only [hfill,newRow,Sem.run_bind,run_newObj,Result.andThen_ok,Sem.run_pure]
   rfl
  ·simp only [h0,if_false,Sem.run_bind,he.zeroValue,Sem.run_pure,Result.andThen_ok]
   have:c0=(Array.range (l.length*u.size)).map (fun i=> (mkV u.isAgg (zeroCells u)).cells[i % (mkV u.isAgg (zeroCells u)).cells.size]!):=by simp only [c0,z,h0,if_false]
   rw [this] at hfill ⊢
   simp only [hfill,newRow,Sem.run_bind,run_newObj,Result.andThen_ok,Sem.run_pure]
   rfl
 have hrel:Rel w0 X0 fz' { m with ω:=ω' } Z s1 a w:=by rw [YHu] at k1; exact k1
 have hsz:(YH c0 0 cs).size=l.length*u.size:=by rw [<-YYu,hsp,hcl]
 obtain ⟨m',g1,g2,g3,g4⟩:=hrel.newRow (r:=id) (t:=u) (xs:=ys) (cs:=YH c0 0 cs) (el:=e) (fr:=(0,0)) (cap:=l.length) hid (by rw [hsp,k4,YWu (by omega)]; exact k3) (by omega) (by rw [hsz]; exact Nat.le_refl _) (Ym3 _ _ fun _=> by rw [hsz]; omega)
 refine ⟨_,_,fz',m',hrun,g1,?_,trivial⟩
 rw [g3,k4]
end
end Go.Abs
namespace Go.Abs
section
variable {w0:World} {X0:Ent} {a:Act} {w:World} {fz:Nat->Prop} {m:Maps} {s s':St} {E:Env} {o:Oper}
def StepOK (E:Env) (w0:World) (X0:Ent) (a:Act) (w:World) (o:Oper) (s':St):Prop:=
 ∃ n v w' fz' m',(execOp a.eval o).run E.P w=.ok n w'/\(n=.value v\/(n=.skip/\v=undef))/\Rel w0 X0 fz' m' [] s' (a.put o.dst v) w'
theorem StepOK.value {x:Sem Value} {p:PV} {v:Value} (h:Rel w0 X0 fz m [] s a w) (hd:∀ k,o.dst=some k->k < a.tmps.size) (he:execOp a.eval o=(x >>=fun v=> pure (.value v))) (hx:x.run E.P w=.ok v w) (hv:RepS w fz m s p v):
  StepOK E w0 X0 a w o (s.putO o.dst p):=by
 refine ⟨.value v,v,w,fz,m,?_,.inl rfl,h.putO hd hv⟩
 rw [he]; simp [hx]
theorem StepOK.made {x:Sem Value} {p:PV} {v:Value} {w':World} {s1:St} {d:Nat} (hd:o.dst=some d) (hlt:d < a.tmps.size) (he:execOp a.eval o=(x >>=fun v=> pure (.value v))) (hx:x.run E.P w=.ok v w') (h:Rel w0 X0 fz m [] s1 a w') (hv:RepS w' fz m s1 p v):
  StepOK E w0 X0 a w o (s1.put d p):=by
 refine ⟨.value v,v,w',fz,m,?_,.inl rfl,?_⟩
 ·rw [he]; simp [hx]
 ·rw [hd]; exact h.put hlt hv
theorem Y4h (hg:Glob E w fz) (h:Rel w0 X0 fz m [] s a w) {x:Option Operand} {l:Option Int} (hx:YK3 E s x=some l):Y14 l (x.map a.eval):=by
 cases x with
 | none=> cases hx; trivial
 | some x=>
  simp only [YK3] at hx
  split at hx
  ·rename_i n hn
   cases hx
   obtain ⟨k,hk⟩:=RepS.asInt hn (h.opd hg x)
   exact ⟨k,hk⟩
  ·cases hx
theorem Yz4 {w':World} {m':Maps} {s1:St} {id:Nat} {t:Ty} {xs:List t.den} {z:Value} (hz:m'.ρ id=z) (hc:YZ z):RepS w' fz m' (s1.setRow id (.mk t .live xs)) (.row id) z:=
 YAb (Yz8 _ _ _) hz hc
theorem Ymr (hE:EnvOK E) (h:Rel w0 X0 fz m [] s a w) {ts:Array TypeId} {t ty:TypeId} {u:Ty} {p:PV} {v:Value} {n:Nat} (h0:ts[0]? =some t) (ht:E.ty t=some u) (hv:RepS w fz m s p v) (hl:s.len u p=some n):
  (Builtin.len_ ts ty #[v]).run E.P w=.ok (.int .i64 n) w:=by
 have hty:=hE.ty t u ht
 unfold St.len at hl
 split at hl
 ·split at hl
  ·cases hl
   have:=hv.str; subst this
   obtain ⟨_,hu⟩:=hty
   simp [Builtin.len_,h0,Yz hu,goInt,YL2]
  ·cases hl
 ·cases hl
  obtain ⟨_,e,hu,_⟩:=hty
  simp [Builtin.len_,h0,Yz hu,goInt]
 ·obtain ⟨_,e,hu,_⟩:=hty
  have fin:∀ b cap,v=.slice b n cap->(Builtin.len_ ts ty #[v]).run E.P w=.ok (.int .i64 n) w:=by
   rintro b cap rfl
   simp [Builtin.len_,h0,Yz hu,goInt]
  split at hl
  ·rename_i x
   cases hl
   obtain ⟨cs,hp,hx,rfl⟩:=hv.reads
   obtain ⟨v',rfl⟩:∃ v',cs=[v']:=List.length_eq_one_iff.1 (by rw [hx.length]; rfl)
   rcases hx.shape with ⟨e1,e2⟩ | ⟨b,e1,e2⟩ | ⟨b,off,cap,e1,_⟩
   ·exact fin none 0 (by rw [show mkV _ [v']=v' from rfl,e1,e2])
   ·exact fin (some b) 0 (by rw [show mkV _ [v']=v' from rfl,e1,e2])
   ·exact fin _ cap e1
  ·cases hl
   exact fin none 0 hv.nils
  ·rename_i r
   obtain ⟨cs,⟨rfl,_⟩,rfl⟩:=hv
   have key:∀ t' o' xs,s.rows r=.mk t' o' xs->o'≠.dead->n=xs.length->(Builtin.len_ ts ty #[mkV (PV.row r).isAgg [m.ρ r]]).run E.P w=.ok (.int .i64 n) w:=by
    intro t' o' xs hr ho hn
    obtain ⟨q,X,hrep⟩:=h.rowAny hr ho
    rcases hrep.shape with ⟨e1,e2⟩ | ⟨b,e1,e2⟩ | ⟨b,off,cap,e1,_⟩
    ·exact fin none 0 (by rw [hn,e2]; exact e1)
    ·exact fin (some b) 0 (by rw [hn,e2]; exact e1)
    ·exact fin _ cap (by rw [hn]; exact e1)
   cases hr:s.rows r with
   | none=> rw [hr] at hl; cases hl
   | mk t' o' xs=>
    rw [hr] at hl
    cases o' with
    | dead=> cases hl
    | live=> cases hl; exact key t' .live xs hr (by simp) rfl
    | frz=> cases hl; exact key t' .frz xs hr (by simp) rfl
  ·cases hl
   obtain ⟨cs,⟨t1,o1,xs1,hr1,hlo,hhi,hpart⟩,rfl⟩:=hv
   rcases hpart with ⟨_,rfl,rfl,rfl⟩ | ⟨_,_,rfl,rfl,rfl⟩ | ⟨_,_,_,_,_,_,_,rfl,_⟩
   ·exact fin none 0 rfl
   ·exact fin _ _ rfl
   ·exact fin _ _ rfl
  ·cases hl
   obtain ⟨cs,⟨T,o,c,n,u,hb,h1,h2,h3,h4,off',cap',rfl,_⟩,rfl⟩:=hv
   exact fin _ _ rfl
  ·cases hl
 ·cases hl
end
end Go.Abs
namespace Go.Abs
section
variable {w0:World} {X0:Ent} {a:Act} {w:World} {fz:Nat->Prop} {m:Maps} {s s':St} {E:Env} {o:Oper}
theorem YDb {t:Ty} {ts:Array TypeId} {st e ty:TypeId} {P:Program} {x:Value} {m n cap:Nat} {A:Option Addr} {new:Array Value} {w':World} (h0:ts[0]? =some st) (hst:P.underlying st=some (.slice e)) (he:TyOK P t e)
  (hx:(Builtin.lenOf x).run P w=.ok m w) (hnew:(Builtin.firstCells t.size (min m n) x).run P w=.ok new w) (hs:∀ a,A=some a->(storeCells a new.toList).run P w=.ok () w') (hn:A=none->w'=w):
  (Builtin.copy_ ts ty #[.slice A n cap,x]).run P w=.ok (.int .i64 (min m n:Nat)) w':=by
 have hsz:=he.sizeOf w
 have hmin:Nat.min m n=min m n:=rfl
 cases A with
 | none=>
  have:=hn rfl
  subst this
  simp [Builtin.copy_,h0,Yz hst,hsz,hx,hmin,hnew,goInt]
 | some a=>
  have:=hs a rfl
  simp [Builtin.copy_,h0,Yz hst,hsz,hx,hmin,hnew,this,goInt]
theorem YSp (h:Rel w0 X0 fz m [] s a w) {P:Program} {ts:Array TypeId} {st e ty:TypeId} {t:Ty} {r:Nat} {xs ys:List t.den} {x:Value} (h0:ts[0]? =some st) (hst:P.underlying st=some (.slice e)) {t0:Ty} (he:TyOK P t0 e) (hsz:t0.size=t.size) (ht:t.pure=true)
  (hr:s.rows r=.mk t .live xs) (hx:YG4 P w fz t x ys):
  ∃ w' m',(Builtin.copy_ ts ty #[m.ρ r,x]).run P w=.ok (.int .i64 ((min ys.length xs.length:Nat):Int)) w'/\Rel w0 X0 fz m' [] (s.setRow r (.mk t .live (ys.take xs.length++xs.drop ys.length))) a w':=by
 have hR:∀ x cs X,Rep w fz t x cs X->cs.length=t.size/\X=[]:=fun x cs X h=> ⟨Rep.length t h,Rep.pure t ht h⟩
 obtain ⟨hx1,hx2⟩:=hx
 obtain ⟨new,hnew,hrn⟩:=hx2 (min ys.length xs.length) (Nat.min_le_left _ _)
 have hnew:=hnew w.drawn
 rw [<-hsz] at hnew
 have hnl:new.toList.length=min ys.length xs.length*t.size:=by
  rw [RepL.length (fun x cs X h=> Rep.length t h) hrn,Yyu]; congr 1; omega
 have hnc:=RepL.cells (fun x cs X h=> Rep.cells t h) hrn
 rcases (h.rows r t xs hr).1 with ⟨hv,e0,_⟩ | ⟨b,off,cap,c,el,fr,X',hv,h2,h3,h4,h5,h6,h7⟩ | ⟨hv,_⟩
 rotate_right
 ·cases hv
 ·simp only [List.cons.injEq,and_true] at hv
  subst e0
  have hself:s.setRow r (.mk t .live (ys.take ([]:List t.den).length++([]:List t.den).drop ys.length))=s:=by
   unfold St.setRow
   have:(fun n=> bif Nat.beq n r then RowE.mk t .live (ys.take ([]:List t.den).length++([]:List t.den).drop ys.length) else s.rows n)=s.rows:=by
    funext n
    rw [Yc2]
    by_cases e:n=r
    ·subst e; rw [Yku rfl,hr]; simp
    ·rw [Yju e]
   rw [this]
  refine ⟨w,m,?_,by rw [hself]; exact h⟩
  rw [hv]
  exact YDb (A:=none) h0 hst he hx1 hnew (fun _ h=> by cases h) (fun _=> rfl)
 ·simp only [List.cons.injEq,and_true] at hv
  have hX':X'=[]:=RepL.pure (fun x cs X h=> (hR x cs X h).2) h5
  subst hX'
  have hin:min ys.length xs.length*t.size<=xs.length*t.size:=YTu _ (Nat.min_le_right _ _)
  have hin2:xs.length*t.size<=cap*t.size:=YTu _ h3
  have hstore:=Yl6 (P:=P) new.toList 0 off w c h2 h6.1 (by omega) hnc
  rw [Nat.add_zero] at hstore
  have hwin:Yl (YH c off new.toList) off (xs.length*t.size)=new.toList++(Yl c off (xs.length*t.size)).drop (min ys.length xs.length*t.size):=by
   have:=Y0c (c:=c) (off:=off) (k:=0) (M:=xs.length*t.size) (vs:=new.toList) (by omega) (by omega)
   rw [Nat.add_zero,Y2v,List.take_zero,YIu,hnl] at this
   exact this
  have hlen:(ys.take xs.length++xs.drop ys.length).length=xs.length:=by simp; omega
  have e1:ys.take xs.length++xs.drop ys.length=ys.take (min ys.length xs.length)++xs.drop (min ys.length xs.length):=by
   rcases Nat.le_total ys.length xs.length with hle | hle
   ·rw [Nat.min_eq_left hle,YWu hle,List.take_length]
   ·rw [Nat.min_eq_right hle,YPu hle,YUu]
  have hrep:=RepL.append hrn (RepL.drop hR (min ys.length xs.length) h5)
  rw [YHu,<-hwin,<-e1] at hrep
  obtain ⟨m',k1,_⟩:=h.writeRow (c':=YH c off new.toList) ht hr hv h2 (Yu5 (by omega)) hlen (by rw [hlen]; exact hrep)
  refine ⟨_,m',?_,k1⟩
  rw [hv]
  exact YDb (A:=some ⟨b,off,none⟩) h0 hst he hx1 hnew (fun a ha=> by cases ha; exact hstore) (fun h=> by cases h)
theorem YRp (h:Rel w0 X0 fz m [] s a w) {P:Program} {ts:Array TypeId} {st e ty:TypeId} {t:Ty} {b lo hi n:Nat} {path:List Step} {T:Ty} {c c':PV} {z ys:List t.den} {v x:Value} (h0:ts[0]? =some st) (hst:P.underlying st=some (.slice e)) {t0:Ty} (he:TyOK P t0 e) (hsz:t0.size=t.size)
  (hb:s.boxes b=.cells T .live c) (hget:c.get path=.val (.arr n t) z) (hv:RepS w fz m s (.bpart b path lo hi) v) (hx:YG4 P w fz t x ys)
  (hset:c.set path (.val (.arr n t) (z.take lo++ys.take (hi - lo)++z.drop (lo+min ys.length (hi - lo))))=some c'):
  ∃ w' m',(Builtin.copy_ ts ty #[v,x]).run P w=.ok (.int .i64 ((min ys.length (hi - lo):Nat):Int)) w'/\Rel w0 X0 fz m' [] (s.setBox b (.cells T .live c')) a w':=by
 obtain ⟨cs0,⟨T',o',c0,n',u,hb',h1,h2,h3,h4,off',cap',rfl,h6,h7,h8⟩,rfl⟩:=hv
 rw [hb] at hb'
 cases hb'
 obtain ⟨cs,el,fr,g1,g2,g3,g4,g5,g6⟩:=h.boxes b T .live c hb (by simp)
 obtain ⟨k1,k2⟩:=RepP.get h1 g2 g3
 rw [hget] at k1 k2
 have hfit:fits (T.at path) (.val (.arr n t) (z.take lo++ys.take (hi - lo)++z.drop (lo+min ys.length (hi - lo))))=true:=by rw [YU] at k2 ⊢; exact k2
 rw [YU,h2] at k2
 simp only [Ty.same,Ylu] at k2
 have hn:=YOu k2.1
 subst hn
 have hs:=Ty.same_size k2.2
 obtain ⟨k3,k4,k5⟩:=k1
 have hp:t.pure=true:=k3
 have hR:∀ x cs X,Rep w fz t x cs X->cs.length=t.size/\X=[]:=fun x cs X h=> ⟨Rep.length t h,Rep.pure t hp h⟩
 have hoff:=Ty.off_le h1
 have hatsz:(T.at path).size=n'*t.size:=by rw [h2,<-hs.1]; rfl
 rw [hatsz] at hoff k5
 have hT:cs.size=T.size:=by
  have:=RepP.size g2
  rw [(YW g3).2] at this
  simpa using this
 obtain ⟨hx1,hx2⟩:=hx
 obtain ⟨new,hnew,hrn⟩:=hx2 (min ys.length (hi - lo)) (Nat.min_le_left _ _)
 have hnew:=hnew w.drawn
 rw [<-hsz] at hnew
 have hnl:new.toList.length=min ys.length (hi - lo)*t.size:=by
  rw [RepL.length (fun x cs X h=> Rep.length t h) hrn,Yyu]; congr 1; omega
 have hnc:=RepL.cells (fun x cs X h=> Rep.cells t h) hrn
 have q1:lo*t.size+min ys.length (hi - lo)*t.size<=n'*t.size:=by rw [<-Nat.add_mul]; exact YTu _ (by omega)
 have hzl:z.length=n':=k4
 have hW:(List.take (n'*t.size) (List.drop (T.off path) cs.toList))=Yl cs (T.off path) (n'*t.size):=rfl
 rw [hW] at k5
 have hrep:RepL (Rep w fz t) (z.take lo++ys.take (hi - lo)++z.drop (lo+min ys.length (hi - lo))) ((Yl cs (T.off path) (n'*t.size)).take (lo*t.size)++new.toList++(Yl cs (T.off path) (n'*t.size)).drop (lo*t.size+min ys.length (hi - lo)*t.size)) []:=by
  have r1:=RepL.take hR lo k5
  have r2:=RepL.drop hR (lo+min ys.length (hi - lo)) k5
  rw [Nat.add_mul] at r2
  have e1:ys.take (hi - lo)=ys.take (min ys.length (hi - lo)):=by
   rcases Nat.le_total ys.length (hi - lo) with hle | hle
   ·rw [Nat.min_eq_left hle,YWu hle,List.take_length]
   ·rw [Nat.min_eq_right hle]
  rw [e1]
  exact RepL.append (RepL.append r1 hrn) r2
 have hlen:(z.take lo++ys.take (hi - lo)++z.drop (lo+min ys.length (hi - lo))).length=n':=by simp; omega
 obtain ⟨j1,j2⟩:=RepP.set (v:=.val (.arr n' t) (z.take lo++ys.take (hi - lo)++z.drop (lo+min ys.length (hi - lo)))) h1 g2 g3 ⟨k3,hlen,hrep⟩ hfit hset
 rw [hatsz] at j1
 have hcut:=YHf cs.toList new.toList (T.off path) (n'*t.size) (lo*t.size) (min ys.length (hi - lo)*t.size) (by omega)
 rw [hW] at hcut
 have hwt:((Yl cs (T.off path) (n'*t.size)).take (lo*t.size)++new.toList++(Yl cs (T.off path) (n'*t.size)).drop (lo*t.size+min ys.length (hi - lo)*t.size))=(Yl cs (T.off path) (n'*t.size)).take (lo*t.size)++new.toList++(Yl cs (T.off path) (n'*t.size)).drop (lo*t.size+min ys.length (hi - lo)*t.size):=rfl
 rw [<-hcut] at j1
 have hspl:(YH cs off' new.toList).toList=cs.toList.take (T.off path+lo*t.size)++new.toList++cs.toList.drop (T.off path+lo*t.size+min ys.length (hi - lo)*t.size):=by
  rw [YQ3,hnl]
  by_cases hlt:lo < hi
  ·rw [h6 hlt,hs.1]
  ·have hm:min ys.length (hi - lo)=0:=by omega
   rw [hm,Nat.zero_mul] at hnl ⊢
   have:new.toList=[]:=YRu hnl
   rw [this]
   simp
 rw [<-hspl] at j1
 have hcs:off'+new.toList.length<=cs.size:=by
  have:min ys.length (hi - lo)*t.size<=cap'*t.size:=YTu _ (by omega)
  rw [hs.1] at h7
  omega
 have hsplsz:(YH cs off' new.toList).size=cs.size:=Yu5 hcs
 obtain ⟨m',l1,_⟩:=h.writeBox hb g1 j1 j2 (by rw [hsplsz]; exact g4)
 refine ⟨_,m',?_,l1⟩
 have hstore:=Yl6 (P:=P) new.toList 0 off' w cs g1 g4 (by omega) hnc
 rw [Nat.add_zero] at hstore
 exact YDb (A:=some ⟨m.γ b,off',none⟩) h0 hst he hx1 hnew (fun a ha=> by cases ha; exact hstore) (fun h=> by cases h)
end
end Go.Abs
namespace Go.Abs
section
variable {w0:World} {X0:Ent} {a:Act} {w:World} {fz:Nat->Prop} {m:Maps} {s s':St} {E:Env} {o:Oper}
theorem YMp (hE:EnvOK E) (h:Rel w0 X0 fz m [] s a w) {src dst d:Nat} {u1 u:Ty} {x:Operand} {p:PV} (hop:o.op=.convert src dst x) (hd:o.dst=some d) (hlt:d < a.tmps.size) (hs:E.ty src=some u1) (hu:E.ty dst=some u) (hv:RepS w fz m s p (a.eval x)) (hf:YB7 u p=true) (hc:YN2 s d u p=some s'):
  StepOK E w0 X0 a w o s':=by
 obtain ⟨d1,hd1,_⟩:=(hE.ty src _ hs).under
 have hty:=hE.ty dst u hu
 have he:execOp a.eval o=(convert src dst (a.eval x) >>=fun v=> pure (.value v)):=by simp only [execOp,hop]
 have hdd:∀ k,o.dst=some k->k < a.tmps.size:=fun k hk=> by rw [hd] at hk; cases hk; exact hlt
 have hput:∀ p,s.put d p=s.putO o.dst p:=fun p=> by rw [hd]; rfl
 unfold YN2 at hc
 split at hc
 ·rename_i k n
  rw [hv.int] at he
  split at hc
  ·cases hc
   rw [hput]
   refine StepOK.value h hdd he ?_ (YN1 _ _)
   obtain ⟨_,hud⟩:=hty
   unfold convert
   simp only [Sem.run_bind,Yz hd1,Yz hud,Result.andThen_ok]
   cases d1 <;> rfl
  ·cases hc
   rw [hput]
   refine StepOK.value (v:=.string (Utf8.encode n)) h hdd he ?_ (by have:=Y12 (w:=w) (fz:=fz) (m:=m) (s:=s) (Yy1 n); rw [Yy1,Ygm] at this; exact this)
   obtain ⟨_,hud⟩:=hty
   unfold convert
   simp only [Sem.run_bind,Yz hd1,Yz hud,Result.andThen_ok]
   cases d1 <;> rfl
  ·cases hc
 ·rename_i l
  rw [hv.str] at he
  split at hc
  ·cases hc
   rw [hput]
   refine StepOK.value h hdd he ?_ (Y12 _)
   obtain ⟨_,hud⟩:=hty
   unfold convert
   simp only [Sem.run_bind,Yz hd1,Yz hud,Result.andThen_ok]
   cases d1 <;> rfl
  ·obtain ⟨s1,h1,rfl⟩:=YKu.1 hc
   obtain ⟨hid,rfl⟩:=YK1 h1
   obtain ⟨_,el,hud,hel⟩:=hty
   obtain ⟨z,w',m',g1,g2,g3,g4⟩:=YOp h hd1 hud hel.2 hid
   exact StepOK.made hd hlt he g1 g2 (Yz4 g3 g4)
  ·have hlim:decide (List.length _<=lim)=true:=hf
   obtain ⟨s1,h1,rfl⟩:=YKu.1 hc
   obtain ⟨hid,rfl⟩:=YK1 h1
   obtain ⟨_,el,hud,hel⟩:=hty
   obtain ⟨z,w',m',g1,g2,g3,g4⟩:=YPp h hd1 hud hel.2 hid (YQu hlim)
   exact StepOK.made hd hlt he g1 g2 (Yz4 g3 g4)
  ·cases hc
 ·cases hc
theorem YSa (h:Rel w0 X0 fz m [] s a w) (hg:Glob E w fz):∀ (l:List Operand),RepSs w fz m s (l.map (s.opd E)) (l.map a.eval)
 | []=> rfl
 | x::l=> ⟨_,_,rfl,h.opd hg x,YSa h hg l⟩
theorem TyOK.notIface {P:Program} {T:Ty} {t:TypeId} (h:TyOK P T t):∃ d,P.underlying t=some d/\∀ ms,d≠.interface ms:=by
 cases T with
 | pair a b=> cases h
 | unit=> cases h
 | st a=> obtain ⟨_,fs,h,_⟩:=h; exact ⟨_,h,by simp⟩
 | arr n a=> obtain ⟨_,e,h,_⟩:=h; exact ⟨_,h,by simp⟩
 | sl o a=> obtain ⟨_,e,h,_⟩:=h; exact ⟨_,h,by simp⟩
 | int k=> exact ⟨_,h.2,by simp⟩
 | bool=> exact ⟨_,h.2,by simp⟩
 | str=> exact ⟨_,h.2,by simp⟩
 | ptr a=> obtain ⟨_,e,h⟩:=h; exact ⟨_,h,by simp⟩
 | rptr a=> obtain ⟨_,e,h⟩:=h; exact ⟨_,h,by simp⟩
 | optr a=> obtain ⟨_,e,h⟩:=h; exact ⟨_,h,by simp⟩
 | nilp=> obtain ⟨_,e,h⟩:=h; exact ⟨_,h,by simp⟩
 | clo f n a=> obtain ⟨_,ps,rs,v,h⟩:=h; exact ⟨_,h,by simp⟩
theorem RepT.nth:∀ {p:PV} {vs:List Value} {i:Nat},RepT w fz m s p vs->Yt4 p i=true->∃ v,vs[i]? =some v/\RepS w fz m s (Go.Abs.nth p i) v
 | .tcons p q,vs,0,h,_=> by
  obtain ⟨cs,us,rfl,h1,h2⟩:=h
  exact ⟨_,rfl,RepS.of h1⟩
 | .tcons p q,vs,i+1,h,hn=> by
  obtain ⟨cs,us,rfl,h1,h2⟩:=h
  exact RepT.nth (p:=q) (vs:=us) (i:=i) h2 hn
theorem Ykq {P:Program} {p:PV} {v:Value} {i:Nat} (hv:RepS w fz m s p v) (hn:Yt4 p i=true):∃ z,(Instr.extract v i).run P w=.ok z w/\RepS w fz m s (Go.Abs.nth p i) z:=by
 cases p with
 | tcons p q=>
  obtain ⟨vs,rfl,ht⟩:=hv
  obtain ⟨z,h1,h2⟩:=ht.nth hn
  exact ⟨z,by simp [Instr.extract,h1],h2⟩
 | _=> simp [Yt4] at hn
theorem Ywf:∀ {ps:List PV} {vs:List Value},RepSs w fz m s ps vs->YR4 ps=true->RepP w fz m s (Yhb ps) vs
 | [],vs,h,_=> by have:vs=[]:=h; subst this; exact ⟨rfl,rfl,rfl⟩
 | p::ps,vs,h,hc=> by
  obtain ⟨v,us,rfl,h1,h2⟩:=h
  simp only [YR4,Ylu,YXu] at hc
  obtain ⟨⟨hsz,hag⟩,hc⟩:=hc
  have hsz:=YOu hsz
  have hp:RepP w fz m s p [v]:=by
   rcases h1.cells with e | e | ⟨_,_,e⟩ | ⟨cs,g1,g2⟩
   ·rw [e] at hsz; cases hsz
   ·rw [e] at hsz; cases hsz
   ·rw [e] at hsz; cases hsz
   ·obtain ⟨c,rfl⟩:=List.length_eq_one_iff.1 (g1.size.trans hsz)
    rw [hag] at g2
    have:v=c:=g2
    subst this; exact g1
  cases ps with
  | nil=> have:us=[]:=h2; subst this; exact hp
  | cons q l=> exact hp.mkPair (Ywf h2 hc)
set_option maxHeartbeats 4000000 in
theorem Ybi (hE:EnvOK E) (h:Rel w0 X0 fz m [] s a w) (hg:Glob E w fz) (hd:∀ k,o.dst=some k->k < a.tmps.size) (hs:Yw E s o=some (true,s')):StepOK E w0 X0 a w o s':=by
 have idDst:∀ {d},o.dst=some d->d < a.tmps.size:=fun hd'=> hd _ hd'
 unfold Yw at hs
 cases hop:o.op with
 | move x=>
  rw [hop] at hs
  rw [YD1 hs]
  refine StepOK.value (x:=pure (a.eval x)) h hd (by simp [execOp,hop]) rfl (h.opd hg x)
 | assign x=>
  rw [hop] at hs
  rw [YD1 hs]
  refine StepOK.value (x:=pure (a.eval x)) h hd (by simp [execOp,hop]) rfl (h.opd hg x)
 | pick c x y=>
  rw [hop] at hs
  simp only at hs
  split at hs
  ·rename_i t hc
   have hcv:=h.opd hg c
   rw [hc] at hcv
   have hcv:=hcv.bool
   split at hs
   ·rw [YD1 hs]
    refine StepOK.value (x:=pure (a.eval x)) h hd (by simp [execOp,hop,hcv,asBool]) rfl (h.opd hg x)
   ·rw [YD1 hs]
    refine StepOK.value (x:=pure (a.eval y)) h hd (by simp [execOp,hop,hcv,asBool]) rfl (h.opd hg y)
  ·cases hs
 | unOp op t x=>
  rw [hop] at hs
  simp only at hs
  split at hs
  ·rename_i v hv
   rw [YD1 hs]
   obtain ⟨z,h1,h2⟩:=Y0u (P:=E.P) hv (h.opd hg x)
   exact StepOK.value h hd (by simp only [execOp,hop]) h1 h2
  ·cases hs
 | binOp op t x y yt=>
  rw [hop] at hs
  obtain ⟨p,hp,rfl⟩:=YZa hs
  obtain ⟨z,h1,h2⟩:=Yam hE (EqAll.of hE) (x:=x) (y:=y) hp (h.opd hg x) (h.opd hg y)
  exact StepOK.value h hd (by simp only [execOp,hop]) h1 h2
 | convert src dst x=>
  rw [hop] at hs
  simp only at hs
  split at hs
  ·rename_i d o' e hdst hsrc hdt
   have hc:=Ye5 hs
   obtain ⟨z,q,h1,rfl,h2⟩:=YQp hE h hsrc hdt (h.opd hg x) hc
   have:s.put d q=s.putO o.dst q:=by rw [hdst]; rfl
   rw [this]
   exact StepOK.value h hd (by simp only [execOp,hop]) h1 h2
  ·rename_i d u1 u _ hdst hsrc hdt
   exact YMp hE h hop hdst (idDst hdst) hsrc hdt (h.opd hg x) (Y0b hs).1 (Y0b hs).2
  ·cases hs
 | index t x i=>
  rw [hop] at hs
  simp only at hs
  split at hs
  ·rename_i l n ht hx hi
   simp only [Ytu,YJu] at hs
   obtain ⟨hin,rfl⟩:=hs
   have hxv:=h.opd hg x
   rw [hx] at hxv
   have hxv:=hxv.str
   obtain ⟨k,hiv⟩:=RepS.asInt hi (h.opd hg i)
   exact StepOK.value h hd (by simp only [execOp,hop,hxv,hiv]) (YWq (k:=k) (hE.ty t _ ht).2 hin) (YN1 _ _)
  ·rename_i k e mm t' l n ht hx hi
   cases hc:(Nat.beq k mm&&e.same t') with
   | false=> rw [hc] at hs; cases hs
   | true=>
    rw [hc] at hs
    simp only [Ygu,Ytu,YJu] at hs
    obtain ⟨hin,rfl⟩:=hs
    simp only [Ylu] at hc
    have:=YOu hc.1
    subst this
    obtain ⟨j,hiv⟩:=RepS.asInt hi (h.opd hg i)
    have hxv:=h.opd hg x
    rw [hx] at hxv
    obtain ⟨z,h1,h2⟩:=YVq hE (k:=j) ht hc.2 hxv hin
    exact StepOK.value h hd (by simp only [execOp,hop,hiv]) h1 h2
  ·cases hs
 | indexAddr t x i=>
  rw [hop] at hs
  simp only at hs
  split at hs
  ·rename_i u n ht hi
   obtain ⟨p,hp,rfl⟩:=YZa hs
   obtain ⟨k,hiv⟩:=RepS.asInt hi (h.opd hg i)
   obtain ⟨z,h1,h2⟩:=YUq hE h (k:=k) ht (h.opd hg x) hp
   exact StepOK.value h hd (by simp only [execOp,hop,hiv]) h1 h2
  ·cases hs
 | load t x=>
  rw [hop] at hs
  simp only at hs
  split at hs
  ·rename_i v u hl ht
   cases hf:fits u v with
   | false=> rw [hf] at hs; cases hs
   | true=>
    rw [hf,Ygu] at hs
    rw [YD1 hs]
    obtain ⟨z,h1,h2⟩:=YRg hE h ht (h.opd hg x) hl hf
    exact StepOK.value h hd (by simp only [execOp,hop]) h1 h2
  ·cases hs
 | store t x y=>
  rw [hop] at hs
  simp only at hs
  split at hs
  ·rename_i u ht
   cases hf:fits u (s.opd E y) with
   | false=> rw [hf] at hs; cases hs
   | true=>
    rw [hf,Ygu] at hs
    obtain ⟨s1,h1,rfl⟩:=YKu.1 (Ye5 hs)
    obtain ⟨w',fz',m',g1,g2⟩:=YCt hE h ht (h.opd hg x) (h.opd hg y) hf h1
    exact ⟨.skip,undef,w',fz',m',by simp [execOp,hop,g1],.inr ⟨rfl,rfl⟩,g2.putUndefO _ _⟩
  ·cases hs
 | alloc t=>
  rw [hop] at hs
  simp only at hs
  split at hs
  ·rename_i d u hdst ht
   cases hf:fits u (Y31 u) with
   | false=> rw [hf] at hs; cases hs
   | true=>
    rw [hf,Ygu] at hs
    obtain ⟨s1,h1,rfl⟩:=YKu.1 (Ye5 hs)
    obtain ⟨hid,rfl⟩:=Yx2 h1
    have hty:=hE.ty t u ht
    obtain ⟨m',g1,g2,g3,g4⟩:=h.newBox (b:=1024*(d+1)) (T:=u) (c:=Y31 u) (cs:=(mkV u.isAgg (zeroCells u)).cells) (el:=t) hid (by rw [Y5c hty]; exact Ywi hf) hf
    refine StepOK.made (x:=Instr.alloc t true (.tuple #[])) hdst (idDst hdst) (by simp only [execOp,hop]) ?_ g1 (Y9e (Yy8 _ _ _) g3)
    simp only [Instr.alloc,Sem.run_bind,hty.zeroValue,Result.andThen_ok,newVar,newRow,run_newObj,Sem.run_pure]
    rfl
  ·cases hs
 | box t x=>
  rw [hop] at hs
  simp only at hs
  split at hs
  ·rename_i d u hdst ht
   cases hf:fits u (s.opd E x) with
   | false=> rw [hf] at hs; cases hs
   | true=>
    rw [hf,Ygu] at hs
    obtain ⟨s1,h1,rfl⟩:=YKu.1 (Ye5 hs)
    obtain ⟨hid,rfl⟩:=Yx2 h1
    have hty:=hE.ty t u ht
    have hs2:=YW hf
    obtain ⟨vs,hq,hxv⟩:∃ vs,RepP w fz m s (s.opd E x) vs/\a.eval x=mkV (s.opd E x).isAgg vs:=by
     rcases (h.opd hg x).cells with e | e | ⟨_,_,e⟩ | hx
     ·rw [e] at hf; simp [fits] at hf
     ·rw [e] at hf; simp [fits] at hf
     ·rw [e] at hf; simp [fits] at hf
     ·exact hx
    have hcl:(a.eval x).cells.toList=vs:=by
     rw [hxv]; exact Yg4 hq.cells (fun ha=> by rw [hq.size,hs2.2,hty.one (hs2.1▸ ha)])
    obtain ⟨m',g1,g2,g3,g4⟩:=h.newBox (b:=1024*(d+1)) (T:=u) (c:=s.opd E x) (cs:=(a.eval x).cells) (el:=t) hid (by rw [hcl]; exact hq) hf
    refine StepOK.made (x:=Instr.box t (a.eval x)) hdst (idDst hdst) (by simp only [execOp,hop]) ?_ g1 (Y9e (Yy8 _ _ _) g3)
    simp only [Instr.box,newVar,newRow,Sem.run_bind,run_newObj,Result.andThen_ok,Sem.run_pure]
    rfl
  ·cases hs
 | build t parts=>
  rw [hop] at hs
  simp only at hs
  split at hs
  ·rename_i u ht
   split at hs
   ·rename_i v hb
    cases hf:fits u v with
    | false=> rw [hf] at hs; cases hs
    | true=>
     rw [hf,Ygu] at hs
     rw [YD1 hs]
     cases hz:(u.isAgg&&fits u (Y31 u)) with
     | false=> rw [hz] at hb; cases hb
     | true=>
      rw [hz,Ygu] at hb
      simp only [Ylu] at hz
      obtain ⟨z,h1,h2⟩:=Ydm hE h hg ht hz.2 hb hf hz.1
      refine StepOK.value h hd (x:=Instr.build t (parts.toList.map fun x=> (x.1,a.eval x.2)).toArray) ?_ h1 h2
      simp only [execOp,hop]
      congr 2
      apply Array.ext'
      simp
   ·cases hs
  ·cases hs
 | buildSlice t len parts=>
  rw [hop] at hs
  simp only at hs
  split at hs
  ·rename_i d u hdst hel
   obtain ⟨e,he1,he2⟩:=YLu.1 hel
   cases hc:(Nat.beq len parts.size&&Nat.ble (len*u.size) 16777216) with
   | false=> rw [hc] at hs; cases hs
   | true=>
    rw [hc,Ygu] at hs
    simp only [Ylu] at hc
    have hlen:=YOu hc.1
    have h24:=Nat.le_of_ble_eq_true hc.2
    split at hs
    ·rename_i ys s1 hb
     obtain ⟨s2,h1,rfl⟩:=YKu.1 (Ye5 hs)
     obtain ⟨hid,rfl⟩:=YK1 h1
     have hl:parts.toList.length=len:=by rw [YYu,hlen]
     obtain ⟨z,w',fz',m',g1,g2,g3,g4⟩:=Ycm h hg (hE.elem t e he1) (hE.ty e u he2) hb (by rw [hl]; exact h24) hid
     refine StepOK.made (x:=Instr.buildSlice t parts.toList.length (parts.toList.map fun x=> (x.1,a.eval x.2)).toArray) hdst (idDst hdst) ?_ g1 g2 (Yz4 g3 g4)
     rw [hl]
     simp only [execOp,hop]
     congr 2
     apply Array.ext'
     simp
    ·cases hs
  ·cases hs
 | makeSlice t l c=>
  rw [hop] at hs
  simp only at hs
  split at hs
  ·rename_i d u n mm hdst hel hn hm
   obtain ⟨e,he1,he2⟩:=YLu.1 hel
   cases hc:(u.zok&&u.pure) with
   | false=> rw [hc] at hs; cases hs
   | true=>
    rw [hc,Ygu] at hs
    simp only [Ylu] at hc
    split at hs
    ·rename_i s1 h1
     obtain ⟨hid,rfl⟩:=YK1 h1
     simp only [Ytu,YJu,Ylu,Yxu] at hs
     obtain ⟨⟨q1,q2,q3⟩,rfl⟩:=hs
     obtain ⟨j,hj⟩:=RepS.asInt hn (h.opd hg l)
     obtain ⟨k,hk⟩:=RepS.asInt hm (h.opd hg c)
     obtain ⟨z,w',m',g1,g2,g3,g4⟩:=YDr (P:=E.P) (j:=j) (k:=k) h (hE.elem t e he1) (hE.ty e u he2) hc.1 q1 q2 (by simpa [lim] using q3) hid
     exact StepOK.made hdst (idDst hdst) (by simp only [execOp,hop,hj,hk]) g1 g2 (Yz4 g3 g4)
    ·cases hs
  ·cases hs
 | fieldAddr t x f=>
  rw [hop] at hs
  simp only at hs
  split at hs
  ·rename_i b path A hx ht
   split at hs
   ·rename_i T hT
    cases hc:(Ty.same (.st A) T&&Nat.ble (f+1) (E.nf t)) with
    | false=> rw [hc] at hs; cases hs
    | true=>
     rw [hc,Ygu] at hs
     simp only [Ylu] at hc
     rw [YD1 hs]
     have hxv:=h.opd hg x
     rw [hx] at hxv
     obtain ⟨z,h1,h2⟩:=Ylq hE ht hT hc.1 (Nat.le_of_ble_eq_true hc.2) hxv
     exact StepOK.value h hd (by simp only [execOp,hop]) h1 h2
   ·cases hs
  ·cases hs
 | field t x f=>
  rw [hop] at hs
  simp only at hs
  split at hs
  ·rename_i A ht
   cases hc:(fits (.st A) (s.opd E x)&&Nat.ble (f+1) (E.nf t)) with
   | false=> rw [hc] at hs; cases hs
   | true=>
    rw [hc,Ygu] at hs
    simp only [Ylu] at hc
    rw [YD1 hs]
    obtain ⟨z,h1,h2⟩:=Ynq hE ht hc.1 (Nat.le_of_ble_eq_true hc.2) (h.opd hg x)
    exact StepOK.value h hd (by simp only [execOp,hop]) h1 h2
  ·cases hs
 | nilCheck x=>
  rw [hop] at hs
  simp only at hs
  split at hs
  ·rename_i b path hx
   rw [YD1 hs]
   have hxv:=h.opd hg x
   rw [hx] at hxv
   obtain ⟨y,hy,_⟩:=hxv.pointer
   exact StepOK.value (x:=pure (.pointer (some y))) h hd (by simp [execOp,hop,hy]) rfl (hy▸ hxv)
  ·cases hs
 | slice t x lo hi mx=>
  rw [hop] at hs
  cases mx with
  | some _=> cases hs
  | none=>
   simp only at hs
   split at hs
   ·rename_i u l hh ht hl hhi
    obtain ⟨p,hp,rfl⟩:=YZa hs
    obtain ⟨z,h1,h2⟩:=Yut hE h ht (h.opd hg x) (Y4h hg h hl) (Y4h hg h hhi) hp
    exact StepOK.value h hd (by simp only [execOp,hop,Option.map_none]) h1 h2
   ·cases hs
 | makeInterface t x=>
  rw [hop] at hs
  simp only at hs
  split at hs
  ·rename_i u ht
   cases hf:fits u (s.opd E x) with
   | false=> rw [hf] at hs; cases hs
   | true=>
    rw [hf,Ygu] at hs
    rw [YD1 hs]
    obtain ⟨vs,hq,hxv⟩:∃ vs,RepP w fz m s (s.opd E x) vs/\a.eval x=mkV (s.opd E x).isAgg vs:=by
     rcases (h.opd hg x).cells with e | e | ⟨_,_,e⟩ | hx
     ·rw [e] at hf; simp [fits] at hf
     ·rw [e] at hf; simp [fits] at hf
     ·rw [e] at hf; simp [fits] at hf
     ·exact hx
    obtain ⟨d,hd1,hd2⟩:=TyOK.notIface (hE.ty t u ht)
    refine StepOK.value (x:=Instr.makeInterface t (a.eval x)) (v:=.iface t (a.eval x)) h hd (by simp only [execOp,hop]) ?_ ⟨_,⟨vs,rfl,hq⟩,by rw [hxv]; rfl⟩
    simp only [Instr.makeInterface,Sem.run_bind,Yz hd1,Result.andThen_ok]
    cases d <;> first | rfl | exact absurd rfl (hd2 _)
  ·cases hs
 | extract x i=>
  rw [hop] at hs
  simp only at hs
  cases hn:Yt4 (s.opd E x) i with
  | false=> rw [hn] at hs; cases hs
  | true=>
   rw [hn,Ygu] at hs
   rw [YD1 hs]
   obtain ⟨z,h1,h2⟩:=Ykq (P:=E.P) (h.opd hg x) hn
   exact StepOK.value h hd (by simp only [execOp,hop]) h1 h2
 | range t x=>
  rw [hop] at hs
  simp only at hs
  split at hs
  ·rename_i d l ht hdst hx
   obtain ⟨s1,h1,rfl⟩:=YKu.1 (Ye5 hs)
   obtain ⟨hid,rfl⟩:=Yx2 h1
   have hxv:=h.opd hg x
   rw [hx] at hxv
   have hxv:=hxv.str
   obtain ⟨_,hu⟩:=hE.ty t _ ht
   obtain ⟨m',g1,g2,g3⟩:=h.newIter (l:=l) hid
   refine StepOK.made (x:=Instr.range t (.string ⟨l.toArray⟩)) (v:=.pointer (some ⟨w.heap.size,0,none⟩)) hdst (idDst hdst) (by simp only [execOp,hop,hxv]) ?_ g1 ⟨_,.inr ⟨l,0,Yy8 _ _ _,rfl,rfl⟩,by rw [g3]; rfl⟩
   simp only [Instr.range,Sem.run_bind,Yz hu,Result.andThen_ok,Sem.run_pure,run_newObj]
   rfl
  ·cases hs
 | makeFunc fn first caps=>
  rw [hop] at hs
  simp only at hs
  split at hs
  ·rename_i f
   cases hc:(Nat.beq first.size 0&&YR4 (caps.toList.map (s.opd E))) with
   | false=> rw [hc] at hs; cases hs
   | true=>
    rw [hc,Ygu] at hs
    simp only [Ylu] at hc
    rw [YD1 hs]
    have hf:first=#[]:=Array.eq_empty_of_size_eq_zero (YOu hc.1)
    subst hf
    have hcaps:=Ywf (YSa h hg caps.toList) hc.2
    refine StepOK.value (x:=Instr.makeFunc (.func f) (#[].map a.eval) (caps.map a.eval)) (v:=.func (.func f) #[] (caps.map a.eval)) h hd (by simp only [execOp,hop]) (by simp [Instr.makeFunc]) ⟨_,⟨caps.toList.map a.eval,rfl,by simp,hcaps⟩,?_⟩
    show Value.func (.func f) #[] (caps.map a.eval)=Value.func (.func f) #[] (caps.toList.map a.eval).toArray
    congr 1
    apply Array.ext'
    simp
  ·cases hs
 | call c=>
  rw [hop] at hs
  simp only at hs
  split at hs
  ·rename_i b hcal
   obtain ⟨consts,hexec⟩:∃ cs,execOp a.eval o=builtin b c.argTypes o.type cs (c.args.map a.eval):=by
    refine ⟨c.args.map fun | .const _=> true | _=> false,?_⟩
    simp only [execOp,hop,resolve,hcal,pure_bind,invoke]
    rfl
   have hargs:∀ {l:List Operand},c.args.toList=l->c.args.map a.eval=(l.map a.eval).toArray:=fun hl=> by
    subst hl
    apply Array.ext'
    simp
   unfold YJ2 at hs
   split at hs
   ·rename_i x hl
    split at hs
    ·rename_i n hn
     rw [YD1 hs]
     obtain ⟨u,hu,hln⟩:=YLu.1 hn
     obtain ⟨t,h0,ht⟩:=YLu.1 hu
     rw [hargs hl] at hexec
     exact StepOK.value h hd hexec (Ymr hE h h0 ht (h.opd hg x) hln) (YN1 _ _)
    ·cases hs
   ·rename_i x y hl
    split at hs
    ·rename_i d t hdst het
     obtain ⟨e,he0,het⟩:=YLu.1 het
     obtain ⟨st,h0,hel⟩:=YLu.1 he0
     rw [hargs hl] at hexec
     have main:((∃ xt,c.argTypes[1]? =some xt/\((∃ e',E.P.underlying xt=some (.slice e'))\/E.P.underlying xt=some .string)))->YH2 s d t (s.opd E x) (s.opd E y)=some (true,s')->StepOK E w0 X0 a w o s':=by
      rintro ⟨xt,h1,hxt⟩ hs
      unfold YH2 at hs
      split at hs
      ·rename_i r hx
       split at hs
       ·rename_i u xs hr
        split at hs
        ·rename_i ys zs hcast htail
         obtain ⟨e1,rfl⟩:=Ty.cast_some hcast
         cases e1
         split at hs
         ·rename_i s1 hnew
          obtain ⟨hid,rfl⟩:=YK1 hnew
          simp only [Ytu,YJu,Yxu] at hs
          obtain ⟨hlim,rfl⟩:=hs
          have hxv:=h.opd hg x
          rw [hx] at hxv
          obtain ⟨cs,⟨rfl,hc2,_⟩,hxe⟩:=hxv
          obtain ⟨k1,k2⟩:=h.takeRow hr
          rw [YHu] at k1
          obtain ⟨z,w',m',g1,g2,g3,g4⟩:=Ya9 (P:=E.P) (ty:=o.type) k1 h0 h1 (hE.elem st e hel) (hE.ty e t het) hxt (h.rows r t xs hr).1 (Yr6 h (h.opd hg y) htail) hlim hid
          refine StepOK.made (x:=Builtin.append_ c.argTypes o.type #[m.ρ r,a.eval y]) hdst (idDst hdst) ?_ g1 g2 (Yz4 g3 g4)
          rw [hexec]
          show builtin .append _ _ _ #[a.eval x,a.eval y]=_
          rw [hxe]
          rfl
         ·cases hs
        ·cases hs
       ·cases hs
      ·rename_i hx
       split at hs
       ·rename_i ys htail
        split at hs
        ·rename_i s1 hnew
         obtain ⟨hid,rfl⟩:=YK1 hnew
         simp only [Ytu,YJu,Yxu] at hs
         obtain ⟨hlim,rfl⟩:=hs
         have hxv:=h.opd hg x
         rw [hx] at hxv
         have hxe:=hxv.nils
         obtain ⟨z,w',m',g1,g2,g3,g4⟩:=Ya9 (P:=E.P) (t:=t) (ys:=[]) (X:=[]) (ty:=o.type) h h0 h1 (hE.elem st e hel) (hE.ty e t het) hxt (.inl ⟨rfl,rfl,rfl⟩) (Yr6 h (h.opd hg y) htail) (by simpa [lim] using hlim) hid
         refine StepOK.made (x:=Builtin.append_ c.argTypes o.type #[.slice none 0 0,a.eval y]) hdst (idDst hdst) ?_ g1 g2 (Yz4 g3 g4)
         rw [hexec]
         show builtin .append _ _ _ #[a.eval x,a.eval y]=_
         rw [hxe]
         rfl
        ·cases hs
       ·cases hs
      ·rename_i r lo hi hx
       cases hab:Nat.beq lo 0&&t.pure with
       | false=> rw [hab] at hs; cases hs
       | true=>
       rw [hab,Ygu] at hs
       rw [Ylu,Nat.beq_eq] at hab
       obtain ⟨rfl,hpure⟩:=hab
       split at hs
       ·rename_i u xs hr
        split at hs
        ·rename_i ys zs hcast htail
         obtain ⟨e1,rfl⟩:=Ty.cast_some hcast
         cases e1
         split at hs
         ·rename_i s1 hnew
          obtain ⟨hid,rfl⟩:=YK1 hnew
          simp only [Ytu,YJu,Yxu] at hs
          obtain ⟨hlim,rfl⟩:=hs
          have hxv:=h.opd hg x
          rw [hx] at hxv
          obtain ⟨cs,⟨t0,o0,xs0,hr0,hlh,hhl,hpart⟩,hxe⟩:=hxv
          rw [hr] at hr0
          cases hr0
          obtain ⟨k1,k2⟩:=h.takeRow hr
          rw [YHu] at k1
          obtain ⟨z0,rfl,hrep⟩:=Rep.cutRow hpure (h.rows r t xs hr).1 hpart hhl
          have hxe:a.eval x=z0:=hxe
          obtain ⟨z,w',m',g1,g2,g3,g4⟩:=Ya9 (P:=E.P) (ty:=o.type) k1 h0 h1 (hE.elem st e hel) (hE.ty e t het) hxt hrep (Yr6 h (h.opd hg y) htail) hlim hid
          refine StepOK.made (x:=Builtin.append_ c.argTypes o.type #[z0,a.eval y]) hdst (idDst hdst) ?_ g1 g2 (Yz4 g3 g4)
          rw [hexec]
          show builtin .append _ _ _ #[a.eval x,a.eval y]=_
          rw [hxe]
          rfl
         ·cases hs
        ·cases hs
       ·cases hs
      ·cases hs
     split at hs
     ·rename_i hx1
      obtain ⟨xt,h1,hx2⟩:=YLu.1 hx1
      obtain ⟨_,e',hu,_⟩:=hE.ty xt _ hx2
      exact main ⟨xt,h1,.inl ⟨e',hu⟩⟩ hs
     ·rename_i hx1
      obtain ⟨xt,h1,hx2⟩:=YLu.1 hx1
      exact main ⟨xt,h1,.inr (hE.ty xt _ hx2).2⟩ hs
     ·cases hs
    ·cases hs
   ·rename_i x y hl
    split at hs
    ·rename_i j n k n' hx hy
     split at hs
     ·rename_i b hcast
      obtain ⟨e1,rfl⟩:=Ty.cast_some hcast
      cases e1
      rw [YD1 hs]
      rw [hargs hl] at hexec
      have hxv:=h.opd hg x
      rw [hx] at hxv
      have hyv:=h.opd hg y
      rw [hy] at hyv
      have hxe:=hxv.int
      have hye:=hyv.int
      refine StepOK.value (x:=Builtin.min_ c.argTypes o.type #[a.eval x,a.eval y]) h hd hexec ?_ (YN1 _ _)
      rw [hxe,hye]
      rfl
     ·cases hs
    ·cases hs
   ·rename_i x y hl
    split at hs
    ·rename_i j n k n' hx hy
     split at hs
     ·rename_i b hcast
      obtain ⟨e1,rfl⟩:=Ty.cast_some hcast
      cases e1
      rw [YD1 hs]
      rw [hargs hl] at hexec
      have hxv:=h.opd hg x
      rw [hx] at hxv
      have hyv:=h.opd hg y
      rw [hy] at hyv
      have hxe:=hxv.int
      have hye:=hyv.int
      refine StepOK.value (x:=Builtin.max_ c.argTypes o.type #[a.eval x,a.eval y]) h hd hexec ?_ (YN1 _ _)
      rw [hxe,hye]
      rfl
     ·cases hs
    ·cases hs
   ·rename_i x y hl
    split at hs
    ·cases hs
    ·rename_i e hel
     obtain ⟨et,he0,het⟩:=YLu.1 hel
     obtain ⟨st,h0,hel⟩:=YLu.1 he0
     rw [hargs hl] at hexec
     have hst:=hE.elem st et hel
     have hety:=hE.ty et e het
     split at hs
     ·rename_i b path lo hi hx
      have hxv:=h.opd hg x
      rw [hx] at hxv
      split at hs
      ·rename_i T c0 hb
       split at hs
       ·rename_i n t z hget
        cases hc:!(Nat.beq e.size t.size) with
        | true=> rw [hc] at hs; cases hs
        | false=>
         rw [hc,Yhu] at hs
         simp only [Bool.not_eq_false'] at hc
         have hsz:=YOu hc
         split at hs
         ·rename_i ys htail
          split at hs
          ·rename_i c' hset
           simp only [Ytu,YJu,true_and] at hs
           subst hs
           obtain ⟨w',m',g1,g2⟩:=YRp (P:=E.P) (ty:=o.type) h h0 hst hety hsz hb hget hxv (Yr6 h (h.opd hg y) htail) hset
           refine ⟨.value _,_,w',fz,m',?_,.inl rfl,g2.putO hd (YN1 _ _)⟩
           rw [hexec]
           show (builtin .copy c.argTypes o.type consts #[a.eval x,a.eval y]).run E.P w=_
           simp only [builtin,Sem.run_bind,g1,Result.andThen_ok,Sem.run_pure]
          ·cases hs
         ·cases hs
       ·cases hs
      ·cases hs
     ·rename_i r hx
      have hxv:=h.opd hg x
      rw [hx] at hxv
      split at hs
      ·rename_i t xs hr
       cases hc:!(Nat.beq e.size t.size&&t.pure) with
       | true=> rw [hc] at hs; cases hs
       | false=>
        rw [hc,Yhu] at hs
        simp only [Bool.not_eq_false',Ylu] at hc
        have hsz:=YOu hc.1
        split at hs
        ·rename_i ys htail
         simp only [Ytu,YJu,true_and] at hs
         subst hs
         obtain ⟨w',m',g1,g2⟩:=YSp (P:=E.P) (ty:=o.type) h h0 hst hety hsz hc.2 hr (Yr6 h (h.opd hg y) htail)
         obtain ⟨cs,⟨rfl,_,_⟩,hxe⟩:=hxv
         refine ⟨.value _,_,w',fz,m',?_,.inl rfl,g2.putO hd (YN1 _ _)⟩
         rw [hexec]
         show (builtin .copy c.argTypes o.type consts #[a.eval x,a.eval y]).run E.P w=_
         rw [hxe]
         show (builtin .copy c.argTypes o.type consts #[m.ρ r,a.eval y]).run E.P w=_
         simp only [builtin,Sem.run_bind,g1,Result.andThen_ok,Sem.run_pure]
        ·cases hs
      ·cases hs
     ·cases hs
   ·cases hs
  ·cases hs
 | _=> rw [hop] at hs; cases hs
end
end Go.Abs
