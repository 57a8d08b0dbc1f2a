/- Part P1 of the proof: see the last text of the claim. No condition of its own. -/
import Derived.Test.YtddagflhafkbnaaGreatDoorE1
import Derived.Test.YtddagflhafkbnaaGreatDoorK8
import Derived.Test.YtddagflhafkbnaaGreatDoorS1
import Derived.KernelRfl
set_option linter.all false
set_option autoImplicit false
namespace Go.Abs
open Go.Proofs
theorem YX4 (b:Nat):∀ (vs:List Value) (o:Nat) (w:World) (c:Array Value) (el:TypeId) (fr:Nat×Nat),w.heap[b]? =some (.cells c el fr)->
  ∃ c',(w.setCells b o vs).heap[b]? =some (.cells c' el fr)/\c'.size=c.size/\∀ k,k < c.size->c'[k]? =if o<=k/\k < o+vs.length then vs[k - o]? else c[k]?
 | [],o,w,c,el,fr,h=> ⟨c,h,rfl,fun k _=> by rw [Yau (by simp)]⟩
 | v::vs,o,w,c,el,fr,h=> by
  have h1:(w.setCell ⟨b,o,none⟩ v).heap[b]? =some (.cells (c.setIfInBounds o v) el fr):=by
   simp only [World.setCell,Array.getElem?_modify]
   rw [Ybu trivial,h]; rfl
  obtain ⟨c',g1,g2,g3⟩:=YX4 b vs (o+1) _ _ el fr h1
  refine ⟨c',g1,by rw [g2]; simp,fun k hk=> ?_⟩
  rw [g3 k (by simpa using hk)]
  by_cases e:k=o
  ·subst e
   rw [Yau (by omega),Ybu (by simp),Nat.sub_self,Array.getElem?_setIfInBounds_self_of_lt hk]; rfl
  ·rw [Array.getElem?_setIfInBounds_ne (by omega)]
   by_cases a:o+1<=k/\k < o+1+vs.length
   ·rw [Ybu a,Ybu (by simp only [Yeu]; omega),show k - o=(k - (o+1))+1 by omega]; rfl
   ·rw [Yau a,Yau (by simp only [Yeu]; omega)]
theorem Yar (w:World) (b o:Nat) (v:Value):Keep w [b] (w.setCell ⟨b,o,none⟩ v):=
 ⟨rfl,rfl,rfl,by simp [World.setCell],fun k _ hk=> RowKit.Below.heap_setCell _ _ _ _ (by simpa using hk)⟩
theorem Y65 (b:Nat):∀ (vs:List Value) (o:Nat) (w:World),Keep w [b] (w.setCells b o vs)
 | [],_,w=> Keep.refl w _
 | v::vs,o,w=> Keep.trans (Yar w b o v) (Y65 b vs (o+1) _) (fun _ h=> .inl h)
theorem YW5 (w:World) (X:List Nat):Keep w X w.drew:=⟨rfl,rfl,rfl,Nat.le_refl _,fun _ _ _=> rfl⟩
theorem YNa (w:World) (o:Obj) (X:List Nat):Keep w X (w.alloc o):=⟨rfl,rfl,rfl,by simp,fun k hk _=> RowKit.Below.heap_alloc _ _ _ hk⟩
theorem YU7 {w w':World} {X Y:List Nat} (h:Keep w X w') (hX:∀ b∈X,b∈Y\/w.heap.size<=b):Keep w Y w':=
 ⟨h.os,h.tape,h.output,h.size,fun b hb hn=> h.block b hb fun hx=> (hX b hx).elim hn (fun h=> by omega)⟩
theorem YIa {w:World} {fz:Nat->Prop} {k:IntKind}:∀ {xs:List Int} {cs:List Value} {X:List Nat},RepL (Rep w fz (.int k)) xs cs X->cs=xs.map (Value.int k)/\X=[]
 | [],_,_,h=> h
 | x::xs,_,_,⟨c1,c2,X1,X2,e1,e2,⟨h1,h2⟩,h3⟩=> by
  obtain ⟨rfl,rfl⟩:=YIa h3
  subst h1 h2 e1 e2
  exact ⟨rfl,rfl⟩
theorem YPf {w:World} {fz:Nat->Prop} {k:IntKind}:∀ (xs:List Int),RepL (Rep w fz (.int k)) xs (xs.map (Value.int k)) []
 | []=> ⟨rfl,rfl⟩
 | x::xs=> ⟨[_],_,[],[],rfl,rfl,⟨rfl,rfl⟩,YPf xs⟩
theorem YH8 (c:Array Value) (off n j:Nat):(Yn c off n)[j]? =if j < n then c[off+j]? else none:=by
 unfold Yn
 rw [List.getElem?_take,List.getElem?_drop,Array.getElem?_toList]
theorem YNi {c:Array Value} {off n:Nat} {vs:List Value} (h:Yn c off n=vs):∀ (j:Nat) v,vs[j]? =some v->c[off+j]? =some v:=by
 intro j v hv
 rw [<-h,YH8] at hv
 split at hv
 ·exact hv
 ·cases hv
theorem Ym6 {c:Array Value} {off n:Nat} {vs:List Value} (hn:vs.length=n) (h:∀ j,j < n->c[off+j]? =vs[j]?):Yn c off n=vs:=by
 apply List.ext_getElem?
 intro j
 rw [YH8]
 split
 ·exact h j (by assumption)
 ·rw [List.getElem?_eq_none (by omega)]
theorem Yo7 {w:World} {b o:Nat} {c:Array Value} {el:TypeId} {fr:Nat×Nat} (h:w.heap[b]? =some (.cells c el fr)):w.cell? ⟨b,o,none⟩=c[o]? :=by simp [World.cell?,h]
theorem Y0b (l:List Int):∀ v∈l.map (Value.int .i32),v.oneCell'=true:=by
 intro v hv
 obtain ⟨x,_,rfl⟩:=List.mem_map.1 hv
 rfl
theorem YS7 (l:List Int) (n:Nat) (r:Int):(l.take n++[r]++l.drop n).map (Value.int .i32)=(l.map (Value.int .i32)).take n++[Value.int .i32 r]++(l.map (Value.int .i32)).drop n:=by
 simp [List.map_take,List.map_drop]
theorem YFa (cs:List Value) (n:Nat) (v:Value) (hn:n<=cs.length) (j:Nat):(cs.take n++[v]++cs.drop n)[j]? =if j < n then cs[j]? else if j=n then some v else cs[j - 1]? :=by
 have hl:(cs.take n).length=n:=by rw [Ypu]; omega
 by_cases a:j < n
 ·rw [Ybu a,Ygu,List.getElem?_append_left (by omega),List.getElem?_take_of_lt a]
 ·rw [Yau a]
  by_cases b:j=n
  ·rw [Ybu b,List.getElem?_append_left (by rw [Yfu,hl]; simp; omega),List.getElem?_append_right (by omega),hl,b,Nat.sub_self]; rfl
  ·rw [Yau b,List.getElem?_append_right (by rw [Yfu,hl]; simp; omega),Yfu,hl,List.getElem?_drop]
   congr 1
   simp; omega
theorem Yy4 (k:Nat):(Builtin.zeroCells (Value.int .i32 0).cells k).size=k:=by simp [Builtin.zeroCells,Value.cells]
theorem Y76 {w:World} {fz:Nat->Prop} {b off cap:Nat} {c:Array Value} {el:TypeId} {fr:Nat×Nat} {ys:List Int} (hb:w.heap[b]? =some (.cells c el fr)) (hlc:ys.length<=cap) (hsz:off+cap<=c.size) (hF:FrT (.int .i32) fr c.size)
  (hw:Yn c off ys.length=ys.map (Value.int .i32)):Rep w fz (.sl true (.int .i32)) ys [.slice (some ⟨b,off,none⟩) ys.length cap] [b]:=by
 refine .inr (.inl ⟨b,off,cap,c,el,fr,[],rfl,hb,hlc,by show off+cap*1<=_; omega,?_,hF,rfl⟩)
 show RepL _ ys (Yn c off (ys.length*1)) []
 rw [Nat.mul_one,hw]
 exact YPf ys
theorem YU5 {w w':World} {fz:Nat->Prop} {X:List Nat} {b:Nat} {l:List Int} {n:Nat} {r:Int} {v:Value} {e:Ending} (hk:Keep w X w') (hz:∀ b,fz b->b < w.heap.size) (he:e=.returned v) (hr:Rep w' fz (.sl true (.int .i32)) (l.take n++[r]++l.drop n) [v] [b])
  (hb:b < w'.heap.size) (hnf:¬fz b) (hbx:b∈X\/w.heap.size<=b):
  Keep w X w'/\∃ fz',FzOk w X fz fz' w'/\∃ rs X',e=.returned (retV rs)/\RepOuts w' fz' [.sl true (.int .i32)] [] (l.take n++[r]++l.drop n) rs [] X'/\X'.Nodup/\∀ b∈X',b < w'.heap.size/\¬fz' b/\(b∈X\/w.heap.size<=b):=
 ⟨hk,fz,Yf4 hz hk.size,[v],[b],he,⟨rfl,_,rfl,hr⟩,by simp,fun k hk=> by rw [YEu] at hk; subst hk; exact ⟨hb,hnf,hbx⟩⟩
theorem Ymt (x:List Int×(Int×List Int)) (y:List Int) (h:Yq4 x=some y):YW3 E ⟨[.sl true (.int .i32),.int .i64,.sl true (.int .i32)],[.sl true (.int .i32)],none⟩ 277 x y:=by
 obtain ⟨l,i,v⟩:=x
 unfold Yq4 at h
 dsimp only at h
 cases hd:decide (0<=i)&&(decide (i<=l.length)&&(decide (v.length=1)&&decide (l.length<=4294967296))) with
 | false=> rw [hd] at h; cases h
 | true=>
 rw [hd,Y7u] at h
 obtain rfl:=Option.some.inj h
 simp only [Ycu,You] at hd
 obtain ⟨h0,h1,h2,h3⟩:=hd
 obtain ⟨n,rfl⟩:=Int.eq_ofNat_of_zero_le h0
 obtain ⟨r,rfl⟩:=List.length_eq_one_iff.1 h2
 have h1:n<=l.length:=by omega
 rw [Ydu]
 rintro w fz vs X ⟨cs,us,X1,X2,rfl,rfl,hl,cs2,us2,X3,X4,rfl,rfl,⟨rfl,rfl⟩,cs3,rfl,hv⟩ hnd hX hz _
 have hmx:(140737488355328:Nat)<=maxLen:=by decide
 rcases hv with ⟨_,hv,_⟩ | ⟨vb,voff,vcap,vc,vel,vfr,X',rfl,hvb,hvlc,hvsz,hvr,hvF,rfl⟩ | ⟨hv,_⟩
 ·cases hv
 rotate_left
 ·cases hv
 obtain ⟨hvw,rfl⟩:=YIa hvr
 have hvsz:voff+vcap<=vc.size:=by have:voff+vcap*1<=vc.size:=hvsz; omega
 have hvlc:1<=vcap:=hvlc
 have hvs:∀ (j:Nat) u,([Value.int .i32 r]:List Value)[j]? =some u->w.cell? ⟨vb,voff+j,none⟩=some u:=fun j u hj=> by rw [Yo7 hvb]; exact YNi hvw j u hj
 have h1v:∀ u∈([Value.int .i32 r]:List Value),u.oneCell'=true:=Y0b [r]
 have hcl:(l.map (Value.int .i32)).length=l.length:=List.length_map _
 have hcap (w:World) (c:Nat):grownCap w (l.length+1) c 21<=9223372036854775807:=grownCap_le_maxLen w _ _ _ (by omega)
 rcases hl with ⟨rfl,hl0,rfl⟩ | ⟨b,off,cap,c,el,fr,X',rfl,hb,hlc,hsz,hr,hF,rfl⟩ | ⟨hl,_⟩
 rotate_right
 ·cases hl
 ·-- nil
  obtain rfl:l=[]:=hl0
  obtain rfl:n=0:=by simpa using h1
  refine (RuneIns.end_grow none 0 0 vb voff 1 vcap [] [Value.int .i32 r] w (by omega) (by omega) (by omega) (by omega) rfl rfl (fun _=> rfl) (fun a ha=> by cases ha) hvs h1v).mono ?_
  rintro e w' ⟨rfl,rfl⟩
  have hg:=grownCap_ge w (0+1) 0 21
  have hk:Keep w ([]++([]++[vb])) (w.drew.alloc (.cells (([]++[Value.int .i32 r]:List Value).toArray++Builtin.zeroCells (Value.int .i32 0).cells (grownCap w (0+1) 0 21 - (0+1))) 21)):=Keep.trans (YW5 w _) (YNa _ _ _) (fun _ h=> .inl h)
  refine YU5 (l:=[]) (n:=0) (b:=w.heap.size) hk hz rfl (Y76 (ys:=[r]) (fr:=(0,0)) (el:=21) (c:=([]++[Value.int .i32 r]:List Value).toArray++Builtin.zeroCells (Value.int .i32 0).cells (grownCap w (0+1) 0 21 - (0+1))) ?_ ?_ ?_ ?_ ?_) ?_ (fun hf=> by have:=hz _ hf; omega) (.inr (Nat.le_refl _))
  ·show (w.heap.push _)[w.heap.size]? =_
   simp
  ·exact hg
  ·rw [Array.size_append,Yy4]; simp; omega
  ·refine YU3 _ _ fun _=> ?_
   rw [Array.size_append,Yy4]
   have:grownCap w (0+1) 0 21<=9223372036854775807:=hcap w 0
   show 1+(grownCap w (0+1) 0 21 - (0+1))<=_
   omega
  ·refine Ym6 rfl fun j hj=> ?_
   have:j=0:=by simpa using hj
   subst this
   rw [Nat.zero_add,Array.getElem?_append_left (by simp)]; rfl
  ·show w.heap.size < (w.heap.push _).size
   simp
 ·-- a block
  obtain ⟨hlw0,rfl⟩:=YIa hr
  have hsz:off+cap<=c.size:=by have:off+cap*1<=c.size:=hsz; omega
  have hlw:Yn c off l.length=l.map (Value.int .i32):=by
   have:Yn c off (l.length*1)=l.map (Value.int .i32):=hlw0
   rwa [Nat.mul_one] at this
  have hcs:∀ (j:Nat) u,(l.map (Value.int .i32))[j]? =some u->w.cell? ⟨b,off+j,none⟩=some u:=fun j u hj=> by rw [Yo7 hb]; exact YNi hlw j u hj
  have hlt:b < w.heap.size:=(Array.getElem?_eq_some_iff.1 hb).1
  have hne:vb≠b:=by
   rintro rfl
   simp at hnd
  have hbX:b∈([b]++([]++[vb]):List Nat):=by simp
  have hbf:=(hX b hbX).2
  have hyl:(l.take n++[r]++l.drop n).length=l.length+1:=by simp; omega
  by_cases room:l.length+1<=cap
  ·by_cases hin:n < l.length
   ·refine (RuneIns.shift b off l.length cap n vb voff 1 vcap (l.map (Value.int .i32)) [Value.int .i32 r] w hin (by omega) room (by have:=hF.2.2 rfl; omega) hne hcl rfl hcs
     (fun j hj=> by rw [Yo7 hb,Array.getElem?_eq_getElem (by omega)]; rfl) (fun j hj=> YF7 hb hF.1 (by omega)) hvs (Y0b l) h1v vel el vc.size c.size (by simp [World.shape?,hvb]) (by simp [World.shape?,hb]) (by omega) (YF7 hvb hvF.1 (by omega))
     (by
      have:=hvF.2.1 (by intro e; cases e)
      simp only [World.frozen?,hvb,Bool.and_eq_false_imp,You,decide_eq_false_iff_not]
      intro a1 a2; exact this ⟨a1,a2⟩)).mono ?_
    rintro e w' ⟨rfl,rfl⟩
    obtain ⟨c1,g1,g2,g3⟩:=YX4 b ((l.map (Value.int .i32)).drop n) (off+(n+1)) w.drew c el fr hb
    obtain ⟨c2,k1,k2,k3⟩:=YX4 b [Value.int .i32 r] (off+n) _ c1 el fr g1
    have hk:Keep w ([b]++([]++[vb])) ((w.drew.setCells b (off+(n+1)) ((l.map (Value.int .i32)).drop n)).setCells b (off+n) [Value.int .i32 r]):=
     Keep.trans (YW5 w _) (Keep.trans (YU7 (Y65 b _ _ _) (fun k hk=> .inl (by rw [YEu] at hk; subst hk; exact hbX))) (YU7 (Y65 b _ _ _) (fun k hk=> .inl (by rw [YEu] at hk; subst hk; exact hbX))) (fun _ h=> .inl h)) (fun _ h=> .inl h)
    refine YU5 (b:=b) hk hz (v:=.slice (some ⟨b,off,none⟩) (l.length+1) cap) rfl ?_ (Nat.lt_of_lt_of_le hlt hk.size) hbf (.inl hbX)
    have hfin:=Y76 (w:=(w.drew.setCells b (off+(n+1)) ((l.map (Value.int .i32)).drop n)).setCells b (off+n) [Value.int .i32 r]) (fz:=fz) (b:=b) (off:=off) (cap:=cap) (c:=c2) (el:=el) (fr:=fr) (ys:=l.take n++[r]++l.drop n) k1 (by omega) (by omega) (by rw [k2,g2]; exact hF) ?_
    ·rw [hyl] at hfin; exact hfin
    ·refine Ym6 (by simp) fun j hj=> ?_
     rw [hyl] at hj
     rw [k3 _ (by omega),g3 _ (by omega),YS7,YFa _ _ _ (by omega)]
     have hdl:((l.map (Value.int .i32)).drop n).length=l.length - n:=by simp
     by_cases a:j < n
     ·rw [Yau (by simp; omega),Yau (by omega),Ybu a]
      have:=YH8 c off l.length j
      rw [Ybu (by omega),hlw] at this
      exact this.symm
     ·rw [Yau a]
      by_cases b':j=n
      ·subst b'
       rw [Ybu (by simp),Ybu rfl,Nat.sub_self]; rfl
      ·rw [Yau (by simp; omega),Ybu (by rw [hdl]; omega),Yau b',List.getElem?_drop]
       congr 1; omega
   ·obtain rfl:n=l.length:=by omega
    refine (RuneIns.end_room b off l.length cap vb voff 1 vcap [Value.int .i32 r] w (by omega) room (by have:=hF.2.2 rfl; omega) rfl
     (fun j hj=> by rw [Yo7 hb,Array.getElem?_eq_getElem (by omega)]; rfl) (fun j hj=> YF7 hb hF.1 (by omega)) hvs h1v).mono ?_
    rintro e w' ⟨rfl,rfl⟩
    obtain ⟨c2,k1,k2,k3⟩:=YX4 b [Value.int .i32 r] (off+l.length) w c el fr hb
    have hk:Keep w ([b]++([]++[vb])) (w.setCells b (off+l.length) [Value.int .i32 r]):=
     YU7 (Y65 b _ _ _) (fun k hk=> .inl (by rw [YEu] at hk; subst hk; exact hbX))
    refine YU5 (b:=b) hk hz (v:=.slice (some ⟨b,off,none⟩) (l.length+1) cap) rfl ?_ (Nat.lt_of_lt_of_le hlt hk.size) hbf (.inl hbX)
    have hfin:=Y76 (w:=w.setCells b (off+l.length) [Value.int .i32 r]) (fz:=fz) (b:=b) (off:=off) (cap:=cap) (c:=c2) (el:=el) (fr:=fr) (ys:=l.take l.length++[r]++l.drop l.length) k1 (by omega) (by omega) (by rw [k2]; exact hF) ?_
    ·rw [hyl] at hfin; exact hfin
    ·refine Ym6 (by simp) fun j hj=> ?_
     rw [hyl] at hj
     rw [k3 _ (by omega),YS7,YFa _ _ _ (by omega)]
     by_cases a:j < l.length
     ·rw [Yau (by simp; omega),Ybu a]
      have:=YH8 c off l.length j
      rw [Ybu (by omega),hlw] at this
      exact this.symm
     ·obtain rfl:j=l.length:=by omega
      rw [Ybu (by simp),Yau (by omega),Ybu rfl,Nat.sub_self]; rfl
  ·by_cases hin:n < l.length
   ·refine (RuneIns.grow b off l.length cap n vb voff 1 vcap (l.map (Value.int .i32)) [Value.int .i32 r] w hin (by omega) hlc (by omega) (by omega) hcl rfl hcs hvs (Y0b l) h1v).mono ?_
    rintro e w' ⟨rfl,rfl⟩
    have hg:=grownCap_ge w (l.length+1) cap 21
    have hgc:=hcap w cap
    have hzs:=fun k=> Yy4 k
    generalize grownCap w (l.length+1) cap 21=G at hg hgc ⊢
    have hRs:(((l.map (Value.int .i32)).take n).toArray++Builtin.zeroCells (Value.int .i32 0).cells (l.length+1 - n)++Builtin.zeroCells (Value.int .i32 0).cells (G - (l.length+1))).size=G:=by
     rw [Array.size_append,Array.size_append,Yy4,Yy4]; simp; omega
    have hRg:∀ j,j < n->(((l.map (Value.int .i32)).take n).toArray++Builtin.zeroCells (Value.int .i32 0).cells (l.length+1 - n)++Builtin.zeroCells (Value.int .i32 0).cells (G - (l.length+1)))[j]? =(l.map (Value.int .i32))[j]? :=by
     intro j hj
     rw [Array.getElem?_append_left (by rw [Array.size_append,Yy4]; simp; omega),Array.getElem?_append_left (by simp; omega),List.getElem?_toArray,List.getElem?_take_of_lt hj]
    generalize ((l.map (Value.int .i32)).take n).toArray++Builtin.zeroCells (Value.int .i32 0).cells (l.length+1 - n)++Builtin.zeroCells (Value.int .i32 0).cells (G - (l.length+1))=R at hRs hRg ⊢
    have hN:(w.alloc (.cells R 21)).drew.heap[w.heap.size]? =some (.cells R 21 (0,0)):=by
     show (w.heap.push _)[w.heap.size]? =_
     simp
    obtain ⟨c1,g1,g2,g3⟩:=YX4 w.heap.size [Value.int .i32 r] n (w.alloc (.cells R 21)).drew R 21 (0,0) hN
    obtain ⟨c2,k1,k2,k3⟩:=YX4 w.heap.size ((l.map (Value.int .i32)).drop n) (n+1) ((w.alloc (.cells R 21)).drew.setCells w.heap.size n [Value.int .i32 r]).drew c1 21 (0,0) g1
    have hk:Keep w ([b]++([]++[vb])) ((((w.alloc (.cells R 21)).drew.setCells w.heap.size n [Value.int .i32 r]).drew).setCells w.heap.size (n+1) ((l.map (Value.int .i32)).drop n)):=by
     refine YU7 (X:=[w.heap.size]) ?_ (fun k hk=> .inr (by rw [YEu] at hk; omega))
     exact Keep.trans (Keep.trans (Keep.trans (YNa w _ _) (YW5 _ _) (fun _ h=> .inl h)) (Keep.trans (Y65 _ _ _ _) (YW5 _ _) (fun _ h=> .inl h)) (fun _ h=> .inl h)) (Y65 _ _ _ _) (fun _ h=> .inl h)
    refine YU5 (b:=w.heap.size) hk hz (v:=.slice (some ⟨w.heap.size,0,none⟩) (l.length+1) G) rfl ?_ ((Array.getElem?_eq_some_iff.1 k1).1) (fun hf=> by have:=hz _ hf; omega) (.inr (Nat.le_refl _))
    have hfin:=Y76 (fz:=fz) (b:=w.heap.size) (off:=0) (cap:=G) (c:=c2) (el:=21) (fr:=(0,0)) (ys:=l.take n++[r]++l.drop n) k1 (by omega) (by omega) (YU3 _ _ fun _=> by rw [k2,g2,hRs]; exact hgc) ?_
    ·rw [hyl] at hfin; exact hfin
    ·refine Ym6 (by simp) fun j hj=> ?_
     rw [hyl] at hj
     have hdl:((l.map (Value.int .i32)).drop n).length=l.length - n:=by simp
     rw [Nat.zero_add,k3 _ (by omega),g3 _ (by omega),YS7,YFa _ _ _ (by omega)]
     by_cases a:j < n
     ·rw [Yau (by rw [hdl]; omega),Yau (by simp; omega),Ybu a,hRg j a]
     ·rw [Yau a]
      by_cases b':j=n
      ·subst b'
       rw [Yau (by omega),Ybu (by simp),Ybu rfl,Nat.sub_self]; rfl
      ·rw [Ybu (by rw [hdl]; omega),Yau b',List.getElem?_drop]
       congr 1; omega
   ·obtain rfl:n=l.length:=by omega
    refine (RuneIns.end_grow (some ⟨b,off,none⟩) l.length cap vb voff 1 vcap (l.map (Value.int .i32)) [Value.int .i32 r] w (by omega) hlc (by omega) (by omega) hcl rfl (fun h=> by cases h)
     (fun a ha j u hj=> by cases ha; rw [Addr.add_lit]; exact hcs j u hj) hvs h1v).mono ?_
    rintro e w' ⟨rfl,rfl⟩
    have hg:=grownCap_ge w (l.length+1) cap 21
    have hgc:=hcap w cap
    generalize grownCap w (l.length+1) cap 21=G at hg hgc ⊢
    have hRs:((l.map (Value.int .i32)++[Value.int .i32 r]).toArray++Builtin.zeroCells (Value.int .i32 0).cells (G - (l.length+1))).size=G:=by
     rw [Array.size_append,Yy4]; simp; omega
    have hk:Keep w ([b]++([]++[vb])) (w.drew.alloc (.cells ((l.map (Value.int .i32)++[Value.int .i32 r]).toArray++Builtin.zeroCells (Value.int .i32 0).cells (G - (l.length+1))) 21)):=Keep.trans (YW5 w _) (YNa _ _ _) (fun _ h=> .inl h)
    refine YU5 (b:=w.heap.size) hk hz (v:=.slice (some ⟨w.heap.size,0,none⟩) (l.length+1) G) rfl ?_ (by show w.heap.size < (w.heap.push _).size; simp) (fun hf=> by have:=hz _ hf; omega) (.inr (Nat.le_refl _))
    have hfin:=Y76 (w:=w.drew.alloc (.cells ((l.map (Value.int .i32)++[Value.int .i32 r]).toArray++Builtin.zeroCells (Value.int .i32 0).cells (G - (l.length+1))) 21)) (fz:=fz) (b:=w.heap.size) (off:=0) (cap:=G) (el:=21) (fr:=(0,0)) (ys:=l.take l.length++[r]++l.drop l.length)
     (by show (w.heap.push _)[w.heap.size]? =_; simp; rfl) (by omega) (by rw [hRs]; omega) (YU3 _ _ fun _=> by rw [hRs]; exact hgc) ?_
    ·rw [hyl] at hfin; exact hfin
    ·refine Ym6 (by simp) fun j hj=> ?_
     rw [hyl] at hj
     rw [Nat.zero_add,Array.getElem?_append_left (by simp; omega),List.getElem?_toArray,YS7,List.take_of_length_le (by omega),List.drop_eq_nil_of_le (by omega),Yyu]
theorem p277 (x:List Int×(Int×List Int)) (y:List Int) (h:Yq4 x=some y):YZ E 277 x y:=Ymt x y h
end Go.Abs
namespace Go.Abs
open Go.Proofs
theorem p126 (x:List UInt8×Int) (y:Int) (h:Yz2 x=some y):YZ E 126 x y:=Ylt (E:=E) (fun s n w=> Tryz.strings_IndexByte s n w) x y h
theorem p213 (x:List UInt8×List UInt8) (y:Int) (h:Yk2 x=some y):YZ E 213 x y:=Ymi (E:=E) 0 (by exact List.mem_cons_self ..) (fun s t m w h1 h2=> Tryz.stringslite_Index s t m w h1 h2) x y h
theorem p214 (x:List UInt8×List UInt8) (y:Int) (h:Yk2 x=some y):YZ E 214 x y:=Ymi (E:=E) 0 (by exact List.mem_cons_self ..) (fun s t m w h1 h2=> Tryz.strings_Index s t m w h1 h2) x y h
theorem p227 (x : Int) (y : List UInt8) (h : Yr4 x = some y) : YZ E 227 x y := Ynt (E := E) 1 (name := "internal/strconv.uint64pow10") (by kernel_rfl) (by exact .tail _ (.tail _ (.head _))) (fun n h0 h1 w h => Tryz.internal_strconv_Itoa n h0 h1 w h) x y h
theorem p137 (x:List (List UInt8)×List UInt8) (y:List UInt8) (h:Y93 x=some y):YZ E 137 x y:=Yot (E:=E) (fun a n s w=> Tryz.strings_Join_none a n s w) (fun bk o n xs sep w h1 h2 h3 h4 h5=> Tryz.strings_Join bk o n xs sep w h1 h2 h3 h4 h5) x y h
theorem Yog:YQ3=(List.range 256).map fun c=> (Lib.firstT c:Int):=by decide+kernel
theorem YXd:YP3=(List.range 16).map fun c=> ((Lib.accLo c:Int),(Lib.accHi c:Int)):=by decide+kernel
theorem p215 (x:List UInt8) (y:Int×Int) (h:Yp4 x=some y):YZ E 215 x y:=Ykt (E:=E) 2 3 (by exact .head _) (by exact .tail _ (.head _)) Yog YXd (fun s w h1 h2=> Tryz.utf8_DecodeLastRuneInString s w h1 h2) x y h
theorem p238 (x:List UInt8) (y:Int×Int) (h:Yh5 x=some y):YZ E 238 x y:=Yjt (E:=E) 2 3 (by exact .head _) (by exact .tail _ (.head _)) Yog YXd (fun s w h1=> Tryz.utf8_DecodeRuneInString s w h1) x y h
theorem Yjs (f:FuncId) (h:(E.prim f).isSome=true):f∈[126,213,214,215,137,227,238,277]:=by
 have:=Yyr (f:=f) (d:=noFn) fnTab rfl h
 exact (show ∀ x∈fnTab,x.2.2.isSome=true->x.1∈[126,213,214,215,137,227,238,277] from by
  have:fnTab.all (fun x=> !x.2.2.isSome||[126,213,214,215,137,227,238,277].any (Nat.beq x.1))=true:=by kernel_rfl
  intro x hx hs
  have:=List.all_eq_true.1 this x hx
  rw [hs] at this
  simpa [Nat.beq_eq] using this) _ this.1 this.2
theorem Yks (f:FuncId) (g:(E.sig f).arg.den->Option (E.sig f).Out) (x:(E.sig f).arg.den) (y:(E.sig f).Out) (hf:E.prim f=some g) (h:g x=some y):YZ E f x y:=by
 have:=Yjs f (by rw [hf]; rfl)
 simp only [Ylu,List.not_mem_nil,or_false] at this
 rcases this with rfl | rfl | rfl | rfl | rfl | rfl | rfl | rfl
 ·obtain rfl:Yz2=g:=Option.some.inj hf
  exact p126 x y h
 ·obtain rfl:Yk2=g:=Option.some.inj hf
  exact p213 x y h
 ·obtain rfl:Yk2=g:=Option.some.inj hf
  exact p214 x y h
 ·obtain rfl:Yp4=g:=Option.some.inj hf
  exact p215 x y h
 ·obtain rfl:Y93=g:=Option.some.inj hf
  exact p137 x y h
 ·obtain rfl:Yr4=g:=Option.some.inj hf
  exact p227 x y h
 ·obtain rfl:Yh5=g:=Option.some.inj hf
  exact p238 x y h
 ·obtain rfl:Yq4=g:=Option.some.inj hf
  exact p277 x y h
theorem YJf {f:FuncId} {x:(E.sig f).arg.den} {y:(E.sig f).Out} (h:Call E f x=some y):YZ E f x y:=Y7c E_ok Yks h
end Go.Abs
