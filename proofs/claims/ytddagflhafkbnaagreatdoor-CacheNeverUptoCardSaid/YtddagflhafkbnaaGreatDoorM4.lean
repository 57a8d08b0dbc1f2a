/- Part M4 of the proof: see the last text of the claim. No condition of its own. -/
import Derived.Test.YtddagflhafkbnaaGreatDoorQ3
import Derived.Test.YtddagflhafkbnaaGreatDoorL8
import Derived.Test.YtddagflhafkbnaaGreatDoorM3
set_option linter.all false
set_option autoImplicit false
namespace Go.Abs
def eqO (a b:D37):Bool:=Ty.beq T37 a b
def Yf2 (o:D37):List D87->Option Nat
 | []=> none
 | e::l=> bif eqO e.1 o then some 0 else (Yf2 o l).map (·+1)
def delO (o:D37):List D87->List D87
 | []=> []
 | e::l=> bif eqO e.1 o then l else e::delO o l
def getO (o:D37):List D87->Option (List Int)
 | []=> none
 | e::l=> bif eqO e.1 o then some e.2 else getO o l
theorem Y3g {o:D37}:∀ {r:List D87},Yf2 o r=none->delO o r=r/\getO o r=none
 | [],_=> ⟨rfl,rfl⟩
 | e::l,h=> by
  unfold Yf2 at h
  unfold delO getO
  cases c:eqO e.1 o with
  | true=> rw [c] at h; cases h
  | false=>
   rw [c,Yhu,Option.map_eq_none_iff] at h
   obtain ⟨h1,h2⟩:=Y3g h
   exact ⟨by rw [Yhu,h1],by rw [Yhu,h2]⟩
theorem Y4g {o:D37}:∀ {r:List D87} {n:Nat},Yf2 o r=some n->n < r.length/\r.take n++r.drop (n+1)=delO o r/\getO o r=some (r.getD n (Ty.zero T87)).2
 | [],_,h=> by cases h
 | e::l,n,h=> by
  unfold Yf2 at h
  unfold delO getO
  cases c:eqO e.1 o with
  | true=>
   rw [c] at h
   obtain rfl:=Option.some.inj h
   exact ⟨Nat.succ_pos _,rfl,rfl⟩
  | false=>
   rw [c,Yhu,YKu] at h
   obtain ⟨m,h,rfl⟩:=h
   obtain ⟨h1,h2,h3⟩:=Y4g h
   exact ⟨Nat.succ_lt_succ h1,by rw [Yhu,<-h2]; rfl,by rw [Yhu,h3]; rfl⟩
def idxO (o:D37) (r:List D87):Int:=match Yf2 o r with
 | some n=> (n:Int)
 | none=> -1
theorem Y6g (r:List D87) (o:D37) (hr:r.length<=1000000000):∀ (k i:Nat),i+k=r.length->Z55 r o (r.length:Int) (i:Int)=some (match Yf2 o (r.drop i) with
  | some n=> ((i+n:Nat):Int)
  | none=> -1)
 | 0,i,hk=> by
  rw [YAc,Yg,Yfu (by omega),Yhu,YPu (by omega)]; rfl
 | k+1,i,hk=> by
  have hw:IntKind.i64.wrap ((i:Int)+1)=((i+1:Nat):Int):=by rw [w64 (by omega) (by omega)]; omega
  have hd:r.drop i=r.getD i (Ty.zero T87)::r.drop (i+1):=by
   rw [Yvu,Ywu (by omega),Yru (by omega)]; rfl
  rw [YAc,Yg,Yeu (by omega),Ygu,Yj,Yeu (by omega),Ygu,Ymu,Ymm,Ypj,Yiu,hw,Y6g r o hr k (i+1) (by omega),hd]
  rw [show Yf2 o (r.getD i (Ty.zero T87)::r.drop (i+1))=(bif eqO (r.getD i (Ty.zero T87)).1 o then some 0 else (Yf2 o (r.drop (i+1))).map (·+1)) from rfl]
  show (bif eqO (r.getD i (Ty.zero T87)).1 o then _ else _)=_
  cases c:eqO (r.getD i (Ty.zero T87)).1 o with
  | true=> rfl
  | false=>
   rw [Yhu,Yhu]
   cases Yf2 o (r.drop (i+1)) with
   | none=> rfl
   | some n=> show some _=some _; congr 1; show ((i+1+n:Nat):Int)=((i+(n+1):Nat):Int); omega
theorem Yoq (m:Int) (r:List D87) (o:D37) (hm:0 < m) (hr:r.length<=1000000000):Yl9 ((m,r),o)=some (idxO o r,(m,r)):=by
 rw [Ynm,YGl,Ym9,Y49,Yiu]
 dsimp only
 rw [Yeu (show m > 0 from hm),YEu,Yhu,YZo,Ygj]
 dsimp only
 have:=Y6g r o hr r.length 0 (by omega)
 rw [show ((0:Nat):Int)=0 from rfl,YZu] at this
 rw [this,Yiu]
 unfold idxO
 cases Yf2 o r with
 | none=> rfl
 | some n=> show some (((0+n:Nat):Int),_)=_; rw [Y2v]
theorem Y8q (m:Int) (r:List D87) (o:D37) (hm:0 < m) (hr:r.length<=1000000000):Yh9 ((m,r),o)=some ((getO o r).isSome,(m,delO o r)):=by
 rw [Yim,Yil]
 dsimp only
 rw [Yoq m r o hm hr,Yiu]
 dsimp only
 unfold idxO
 cases c:Yf2 o r with
 | none=>
  obtain ⟨h1,h2⟩:=Y3g c
  rw [h1,h2]; rfl
 | some n=>
  obtain ⟨h1,h2,h3⟩:=Y4g c
  have hw:IntKind.i64.wrap ((n:Int)+1)=((n+1:Nat):Int):=by rw [w64 (by omega) (by omega)]; omega
  dsimp only
  rw [Yeu (show (n:Int)>=0 by omega),Ygu,hw,Y8f,h3]
  unfold YN3
  dsimp only
  rw [Yeu (show (0:Int)<=(n:Int) by omega),Yeu (show (n:Int)<=((n+1:Nat):Int) by omega),Yeu (show ((n+1:Nat):Int)<=(r.length:Int) by omega),Yeu (show r.length<=4294967296 by omega)]
  rw [Ymu,Ymu,h2]; rfl
theorem YYf (m:Int) (r:List D87) (hr:r.length<=1000000000) (hl:∀ e∈r,e.2.length<=1000000000):∀ (k i:Nat),i+k=r.length->Zu4 (r.length:Int) (i:Int) m r (r.take i)=some (r,(m,r))
 | 0,i,hk=> by rw [YBd,Yg,Yfu (by omega),Yhu,YWu (by omega)]
 | k+1,i,hk=> by
  have hw:IntKind.i64.wrap ((i:Int)+1)=((i+1:Nat):Int):=by rw [w64 (by omega) (by omega)]; omega
  have hg:r.getD i (Ty.zero T87)=r[i]'(by omega):=by rw [Yvu,Ywu (by omega)]; rfl
  have hmem:r.getD i (Ty.zero T87)∈r:=by rw [hg]; exact List.getElem_mem _
  rw [YBd,Yg,Yeu (by omega),Ygu,Yj,Yeu (by omega),Ygu,Ymu,Y7f]
  unfold YM3
  rw [Yeu (show (r.getD i (Ty.zero T87)).2.length<=4294967296 from Nat.le_trans (hl _ hmem) (by omega)),Ygu,Yiu,hw]
  show (bif decide ((r.take i).length+1<=lim) then Zu4 _ _ _ _ (r.take i++[r.getD i (Ty.zero T87)]) else none)=_
  rw [Yeu (show (r.take i).length+1<=lim by rw [Yyu]; unfold lim; omega),Ygu,hg,<-List.take_succ_eq_append_getElem (by omega)]
  exact YYf m r hr hl k (i+1) (by omega)
theorem Yfq (m:Int) (r:List D87) (hm:0 < m) (hr:r.length<=1000000000) (hl:∀ e∈r,e.2.length<=1000000000):Yi9 (m,r)=some (r,(m,r)):=by
 rw [Yjm,Ynl,Ym9,Y49,Yiu]
 dsimp only
 rw [Yeu (show m > 0 from hm),YEu,Yhu]
 exact YYf m r hr hl r.length 0 (by omega)
theorem Y7h (m:Int) (r:List D87) (hr:r.length<=1000000000):∀ (k i:Nat),i+k=r.length->Zr4 (r.length:Int) (i:Int) m r ((r.take i).map (·.1)) r=some (r.map (·.1),(m,r))
 | 0,i,hk=> by rw [Ytd,Yg,Yfu (by omega),Yhu,YWu (by omega)]
 | k+1,i,hk=> by
  have hw:IntKind.i64.wrap ((i:Int)+1)=((i+1:Nat):Int):=by rw [w64 (by omega) (by omega)]; omega
  have hg:r.getD i (Ty.zero T87)=r[i]'(by omega):=by rw [Yvu,Ywu (by omega)]; rfl
  rw [Ytd,Yg,Yeu (by omega),Ygu,Yj,Yeu (by omega),Ygu,Ymu,hw]
  rw [Yeu (show ((r.take i).map (·.1)).length+([(r.getD i (Ty.zero T87)).1]:List D37).length<=lim by rw [YVu,Yyu]; unfold lim; simp; omega),Ygu,hg]
  have e:(r.take i).map (fun e:D87=> e.1)++[(r[i]'(by omega)).1]=(r.take (i+1)).map (·.1):=by
   rw [List.take_succ_eq_append_getElem (by omega),List.map_append]; rfl
  rw [e]
  exact Y7h m r hr k (i+1) (by omega)
theorem Y5s (m:Int) (r:List D87) (hm:0 < m) (hr:r.length<=1000000000) (hl:∀ e∈r,e.2.length<=1000000000):Yj9 (m,r)=some (r.map (·.1),(m,r)):=by
 rw [Ykm,Y6l,Yfq m r hm hr hl,Yiu]
 exact Y7h m r hr r.length 0 (by omega)
def putO (m:Int) (r:List D87) (o:D37) (h:List Int):List D87:=(bif !(getO o r).isSome&&((delO o r).length==m.toNat) then (delO o r).drop 1 else delO o r)++[(o,h)]
theorem Ypa (o:D37):∀ r:List D87,(delO o r).length<=r.length
 | []=> Nat.le_refl _
 | e::l=> by
  unfold delO
  cases eqO e.1 o with
  | true=> exact Nat.le_succ _
  | false=> exact Nat.succ_le_succ (Ypa o l)
theorem Yvs (m:Int) (r:List D87) (o:D37) (h:List Int) (hm:0 < m) (hr:r.length<=100000000) (hh:h.length<=1000000000) (e:Int) (he:YS6 (o,h)=some e):Yk9 ((m,r),(o,h))=some (if e=0 then (0,(m,putO m r o h)) else (e,(m,r))):=by
 have hd:=Ypa o r
 have fin:∀ r2:List D87,r2.length<=100000000->Zp4 o h m o r2=some (0,(m,r2++[(o,h)])):=by
  intro r2 h2
  rw [YZk,Y7f]
  unfold YM3
  rw [Yeu (show h.length<=4294967296 by omega),Ygu,Yiu]
  rw [Yeu (show r2.length+([(o,h)]:List D87).length<=lim by unfold lim; simp; omega),Ygu]
 rw [Ylm,YTk,Ym9,Y49,Yiu]
 dsimp only
 rw [Yeu (show m > 0 from hm),YEu,Yhu,he,Yiu]
 by_cases c:e=0
 ·rw [Yku c,show (e !=0)=false from by rw [c]; rfl,Yhu,Y8q m r o hm (by omega),Yiu]
  dsimp only
  unfold putO
  cases g:(getO o r).isSome with
  | true=>
   rw [YEu,Yhu,Bool.false_and,Yhu]
   exact fin _ (by omega)
  | false=>
   rw [YFu,Ygu,Y5v]
   have hb:((((delO o r).length:Nat):Int)==m)=((delO o r).length==m.toNat):=by
    by_cases q:(delO o r).length=m.toNat
    ·rw [Y7v.2 q]; exact Y7v.2 (by omega)
    ·rw [Yqu.2 q]; exact Yqu.2 (by omega)
   rw [hb]
   cases q:((delO o r).length==m.toNat) with
   | false=> rw [Yhu,Yhu]; exact fin _ (by omega)
   | true=>
    have q:=Y7v.1 q
    rw [Ygu,Ygu,Y8f]
    unfold YN3
    dsimp only
    rw [Yeu (show (0:Int)<=0 by omega),Yeu (show (0:Int)<=1 by omega),Yeu (show (1:Int)<=((delO o r).length:Int) by omega),Yeu (show (delO o r).length<=4294967296 by omega)]
    have e1:(delO o r).take (Int.toNat 0)++(delO o r).drop (Int.toNat 1)=(delO o r).drop 1:=rfl
    rw [e1]
    exact fin _ (by rw [Yzu]; omega)
 ·rw [Yju c,show (e !=0)=true from bne_iff_ne.2 c,Ygu]
end Go.Abs
namespace Go.Abs
end Go.Abs
namespace Go.Abs
def Yu4 (s:List UInt8):Int×Bool:=bif s==[104,116,116,112] then (80,true) else bif s==[104,116,116,112,115] then (443,true) else bif s==[119,115] then (80,true) else bif s==[119,115,115] then (443,true) else bif s==[102,116,112] then (21,true) else (0,false)
theorem Yjs (s:List UInt8) (hs:s.length<=1073741823):YA5 s=some (Yu4 s):=by
 rw [Ybn]
 unfold Yy4
 rw [Yeu (show s.length<=140737488355328 by omega),Ygu]; rfl
def YP2 (k:Int):Bool:=(k==1)||((k==2)||(k==3))
theorem YLp (k:Int):YP5 (([(1:Int),(2:Int),(3:Int)]:List Int),k)=some (YP2 k):=by
 have w1:IntKind.i64.wrap ((0:Int)+1)=1:=by kernel_rfl
 have w2:IntKind.i64.wrap ((1:Int)+1)=2:=by kernel_rfl
 have w3:IntKind.i64.wrap ((2:Int)+1)=3:=by kernel_rfl
 rw [YYo,Yxj,Y0p,YDj]
 dsimp only
 have e0:∀ i:Int,Z95 ([(1:Int),(2:Int),(3:Int)]:List Int) k ((List.length ([(1:Int),(2:Int),(3:Int)]:List Int):Nat):Int) i=Z95 ([(1:Int),(2:Int),(3:Int)]:List Int) k 3 i:=fun i=> rfl
 rw [e0]
 unfold YP2
 rw [YF6]
 show ((bif k==1 then some 0 else Z95 _ k 3 (IntKind.i64.wrap (0+1))).bind _)=_
 rw [w1]
 cases h1:(k==1) with
 | true=> rfl
 | false=>
  rw [Yhu,YF6]
  show ((bif k==2 then some 1 else Z95 _ k 3 (IntKind.i64.wrap (1+1))).bind _)=_
  rw [w2]
  cases h2:(k==2) with
  | true=> rfl
  | false=>
   rw [Yhu,YF6]
   show ((bif k==3 then some 2 else Z95 _ k 3 (IntKind.i64.wrap (2+1))).bind _)=_
   rw [w3]
   cases h3:(k==3) with
   | true=> rfl
   | false=> rw [Yhu,YF6]; rfl
def opq (n:Int):D37:=(n,(([]:List UInt8),(hnil,(0:Int))))
noncomputable def Yk3 (o:D37):Int:=bif o.1 !=0 then 71 else bif !(Yu4 o.2.1).2 then 71 else bif !(YP2 o.2.2.1.1) then 71 else bif Yw1 o.2.2.1 !=0 then 71 else bif decide (o.2.2.2 < 0) then 71 else bif decide (o.2.2.2 > 65535) then 71 else 0
noncomputable def Yr1 (o:D37):Int:=bif decide (o.1 > 0)&&eqO o (opq o.1) then 0 else Yk3 o
theorem Y4s (o:D37) (hs:o.2.1.length<=1073741823):((YA5 o.2.1).bind fun y0=>
    bif (o.1 !=(0:Int)) then
     some (71:Int)
    else
     bif (!y0.2) then
      some (71:Int)
     else
      (YP5 (([(1:Int),(2:Int),(3:Int)]:List Int),o.2.2.1.1)).bind fun y1=>
       bif (!y1) then
        some (71:Int)
       else
        (Yy5 o.2.2.1).bind fun y2=>
         bif (y2 !=(0:Int)) then
          some (71:Int)
         else
          bif (decide (o.2.2.2 < (0:Int))) then
           some (71:Int)
          else
           bif (decide (o.2.2.2 > (65535:Int))) then
            some (71:Int)
           else
            some (0:Int))=some (Yk3 o):=by
 rw [Yjs _ hs,Yiu]
 unfold Yk3
 cases (o.1 !=(0:Int)) with
 | true=> rfl
 | false=>
  rw [Yhu,Yhu]
  cases (!(Yu4 o.2.1).2) with
  | true=> rfl
  | false=>
   rw [Yhu,Yhu,YLp,Yiu]
   cases (!(YP2 o.2.2.1.1)) with
   | true=> rfl
   | false=>
    rw [Yhu,Yhu,Ytm,Yiu]
    cases (Yw1 o.2.2.1 !=0) with
    | true=> rfl
    | false=>
     rw [Yhu,Yhu]
     cases decide (o.2.2.2 < (0:Int)) with
     | true=> rfl
     | false=>
      rw [Yhu,Yhu]
      cases decide (o.2.2.2 > (65535:Int)) <;> rfl
theorem Y6h (o:D37) (hs:o.2.1.length<=1073741823):YZ6 o=some (Yr1 o):=by
 rw [Yan,YLl,Y4s o hs]
 unfold Yr1
 cases decide (o.1 > 0) with
 | false=> rfl
 | true=>
  rw [Ygu,Y5v]
  show (bif eqO o (opq o.1) then some 0 else some (Yk3 o))=_
  cases eqO o (opq o.1) <;> rfl
def Y66 (l:List (List UInt8)) (s:List UInt8):Bool:=decide (0 < l.length)&&(l.getD (l.length - 1) []==s)
def Y86:List UInt8:=[108,111,99,97,108,104,111,115,116]
def YF2 (s:List UInt8):Bool:=(s==[104,116,116,112,115])||(s==[119,115,115])
def YVb (o:D37):Bool:=
 bif o.2.2.1.1==2 then (shr IntKind.u32 o.2.2.1.2.2.1 24==127)||YF2 o.2.1
 else bif o.2.2.1.1==3 then (Ty.beq (.arr 8 (.int .u16)) o.2.2.1.2.2.2 (List.set (Ty.zero (.arr 8 (.int .u16))) 7 (1:Int)))||YF2 o.2.1
 else Y66 (Yu2 o.2.2.1.2.1) Y86||YF2 o.2.1
noncomputable def YV3 (o:D37):Bool:=bif Yr1 o !=0 then false else bif decide (o.1 > 0) then false else YVb o
theorem YQt (o:D37) (hs:o.2.1.length<=1073741823) (hn:o.2.2.1.2.1.length<=1073741823):Yz9 o=some (YV3 o):=by
 have tl1:∀ x,Z05 x o=some (YF2 o.2.1):=fun x=> by
  rw [YTi]
  unfold YF2
  cases (o.2.1==([104,116,116,112,115]:List UInt8)) <;> rfl
 have tl2:∀ x,Z15 x o=some (YF2 o.2.1):=fun x=> by rw [YZi,tl1]
 have hl:=YIg o.2.2.1.2.1
 rw [Ycn,YSl,Y6h o hs,Yiu,tl1,tl2,YBm _ hn,Yiu]
 unfold YV3 YVb
 cases (Yr1 o !=0) with
 | true=> rfl
 | false=>
  rw [Yhu,Yhu]
  cases decide (o.1 > 0) with
  | true=> rfl
  | false=>
   rw [Yhu,Yhu]
   cases (o.2.2.1.1==(2:Int)) with
   | true=>
    rw [Ygu,Ygu]
    cases (shr IntKind.u32 o.2.2.1.2.2.1 24==127) <;> rfl
   | false=>
    rw [Yhu,Yhu]
    cases (o.2.2.1.1==(3:Int)) with
    | true=>
     rw [Ygu,Ygu]
     cases (Ty.beq (.arr 8 (.int .u16)) o.2.2.1.2.2.2 (List.set (Ty.zero (.arr 8 (.int .u16))) 7 (1:Int))) <;> rfl
    | false=>
     rw [Yhu,Yhu]
     unfold Y66
     generalize Yu2 o.2.2.1.2.1=L at hl
     by_cases c:0 < L.length
     ·have hw:IntKind.i64.wrap (((L.length:Nat):Int) - 1)=((L.length - 1:Nat):Int):=by rw [w64 (by omega) (by omega)]; omega
      rw [Yeu (show ((L.length:Nat):Int) > 0 by omega),Ygu,hw,Yj,Yeu (by omega),Ygu,Ymu,Yeu c,Y5v]
      show (bif (L.getD (L.length - 1) []==Y86) then some true else some (YF2 o.2.1))=_
      cases (L.getD (L.length - 1) []==Y86) <;> rfl
     ·rw [Yfu (show ¬((L.length:Nat):Int) > 0 by omega),Yhu,Yfu c]; rfl
def Y16:Option Int->List Int->Int
 | _,[]=> 0
 | p,x::l=> bif decide (x < 0) then 201 else bif decide (x>=12) then 201 else bif (match p with | some q=> decide (x<=q) | none=> false) then 7 else Y16 (some x) l
def Yg6 (h:List Int) (i:Nat):Option Int:=if i=0 then none else some (h.getD (i - 1) 0)
theorem Yjg (h:List Int) (hh:h.length<=1073741823):∀ (k i:Nat),i+k=h.length->Z35 h h (h.length:Int) (i:Int)=some (Y16 (Yg6 h i) (h.drop i))
 | 0,i,hk=> by rw [Yuc,Yg,Yfu (by omega),Yhu,YPu (by omega)]; rfl
 | k+1,i,hk=> by
  have hw:IntKind.i64.wrap ((i:Int)+1)=((i+1:Nat):Int):=by rw [w64 (by omega) (by omega)]; omega
  have hd:h.drop i=h.getD i 0::h.drop (i+1):=by
   rw [Yvu,Ywu (by omega),Yru (by omega)]; rfl
  have hp:Yg6 h (i+1)=some (h.getD i 0):=by unfold Yg6; rw [Yju (by omega),Yav]
  have ih:=Yjg h hh k (i+1) (by omega)
  rw [hp] at ih
  rw [Yuc,Yg,Yeu (by omega),Ygu,Yj,Yeu (by omega),Ygu,Ymu,hw,ih,hd]
  show (bif decide (h.getD i 0 < 0) then some (201:Int) else bif decide (h.getD i 0>=12) then some 201 else _)=some (bif decide (h.getD i 0 < 0) then (201:Int) else bif decide (h.getD i 0>=12) then 201 else bif (match Yg6 h i with | some q=> decide (h.getD i 0<=q) | none=> false) then 7 else Y16 (some (h.getD i 0)) (h.drop (i+1)))
  cases decide (h.getD i 0 < 0) with
  | true=> rfl
  | false=>
   rw [Yhu,Yhu]
   cases decide (h.getD i 0>=12) with
   | true=> rfl
   | false=>
    rw [Yhu,Yhu]
    by_cases c:i=0
    ·subst c
     rw [Yfu (show ¬((0:Nat):Int) > 0 by omega),Yhu]; rfl
    ·have hw2:IntKind.i64.wrap ((i:Int) - 1)=((i - 1:Nat):Int):=by rw [w64 (by omega) (by omega)]; omega
     rw [Yeu (show (i:Int) > 0 by omega),Ygu,hw2,Yj,Yeu (by omega),Ygu,Ymu]
     unfold Yg6
     rw [Yju c]
     show (bif decide (h.getD i 0<=h.getD (i - 1) 0) then some 7 else _)=some (bif decide (h.getD i 0<=h.getD (i - 1) 0) then 7 else _)
     cases decide (h.getD i 0<=h.getD (i - 1) 0) <;> rfl
theorem YPq (h:List Int) (hh:h.length<=1073741823):Yo9 h=some (Y16 none h):=by
 rw [Yrm,Y6j]
 exact Yjg h hh h.length 0 (by omega)
noncomputable def mayC (o:D37) (h:List Int):Int:=bif Yr1 o !=0 then 71 else bif decide (o.1 > 0) then 242 else bif !(YV3 o) then 1 else Y16 none h
def okSt (o:D37) (h:List Int):Prop:=o.2.1.length<=1073741823/\o.2.2.1.2.1.length<=1073741823/\h.length<=1000000000
theorem YGr (o:D37) (h:List Int) (ho:okSt o h):YS6 (o,h)=some (mayC o h):=by
 obtain ⟨h1,h2,h3⟩:=ho
 rw [Ypm,YAl]
 dsimp only
 rw [Y6h o h1,Yiu,YQt o h1 h2,Yiu,YPq h (by omega),Yiu]
 unfold mayC
 cases (Yr1 o !=0) with
 | true=> rfl
 | false=>
  rw [Yhu,Yhu]
  cases decide (o.1 > 0) with
  | true=> rfl
  | false=>
   rw [Yhu,Yhu]
   cases (!(YV3 o)) <;> rfl
end Go.Abs
namespace Go.Abs
theorem YLr (x:Int):YX6 x=some x:=by rw [Y4n,YPk]
def okL (S:List D40):Prop:=S.length<=100000000/\∀ e∈S,okSt e.2.1 e.2.2
theorem YIr (m:Int):Yn9 m=some (if 1<=m/\m<=64 then (some (m,[]),0) else (none,4)):=by
 rw [Yom,YIk]
 by_cases c:m < 1
 ·rw [Yeu c,Ygu,Yju (by omega)]
 ·rw [Yfu c,Yhu]
  by_cases d:m > 64
  ·rw [Yeu d,Ygu,Yju (by omega)]
  ·rw [Yfu d,Yhu,Yku (by omega)]
end Go.Abs
namespace Go.Abs
theorem YRs (s:List UInt8):YO5 s=some (Yu4 s):=by
 have e1:∀ b,Z98 s s b=bif b then some (443,true) else bif s==[102,116,112] then some (21,true) else some (0,false):=fun b=> by rw [YLj,YSj,YYj]
 have e2:∀ b,Z88 s s b=bif b then some (80,true) else bif s==[104,116,116,112,115] then some (443,true) else bif s==[119,115,115] then some (443,true) else bif s==[102,116,112] then some (21,true) else some (0,false):=fun b=> by
  rw [YGj,e1,e1]
  cases s==[104,116,116,112,115] <;> rfl
 rw [YVo,Yzj,e2,e2]
 unfold Yu4
 by_cases h1:s=[104,116,116,112]
 ·subst h1; rfl
 by_cases h2:s=[104,116,116,112,115]
 ·subst h2; rfl
 by_cases h3:s=[119,115]
 ·subst h3; rfl
 by_cases h4:s=[119,115,115]
 ·subst h4; rfl
 rw [Yqu.2 h1,Yqu.2 h2,Yqu.2 h3,Yqu.2 h4]
 cases s==[102,116,112] <;> rfl
theorem YLs (s:List UInt8) (hs:s.length<=1073741823):Y4a s=some (Y66 (Yu2 s) Y86):=by
 have hl:=YIg s
 rw [YXo,Ysj,YEo s hs,Yiu]
 unfold Y66
 generalize Yu2 s=L at hl
 by_cases c:0 < L.length
 ·have hw:IntKind.i64.wrap (((L.length:Nat):Int) - 1)=((L.length - 1:Nat):Int):=by rw [w64 (by omega) (by omega)]; omega
  rw [Yeu (show ((L.length:Nat):Int) > 0 by omega),Ygu,hw,Yj,Yeu (by omega),Ygu,Ymu,Yeu c,Y5v]; rfl
 ·rw [Yfu (show ¬((L.length:Nat):Int) > 0 by omega),Yhu,Yfu c]; rfl
theorem Y6r (k:Int) {α:Type} (x y:α):(bif decide (k < 1) then x else bif decide (k > 3) then x else y)=(bif !(YP2 k) then x else y):=by
 unfold YP2
 by_cases c:k < 1
 ·rw [Yeu c,Ygu,Yqu.2 (by omega),Yqu.2 (by omega),Yqu.2 (by omega)]; rfl
 ·rw [Yfu c,Yhu]
  by_cases d:k > 3
  ·rw [Yeu d,Ygu,Yqu.2 (by omega),Yqu.2 (by omega),Yqu.2 (by omega)]; rfl
  ·rw [Yfu d,Yhu]
   have:k=1\/k=2\/k=3:=by omega
   rcases this with rfl | rfl | rfl <;> rfl
theorem YNs (o:D37):((YO5 o.2.1).bind fun y0=>
    bif (o.1 !=(0:Int)) then
     some (71:Int)
    else
     bif (!y0.2) then
      some (71:Int)
     else
      bif (decide (o.2.2.1.1 < (1:Int))) then
       some (71:Int)
      else
       bif (decide (o.2.2.1.1 > (3:Int))) then
        some (71:Int)
       else
        (YK5 o.2.2.1).bind fun y1=>
         bif (y1 !=(0:Int)) then
          some (71:Int)
         else
          bif (decide (o.2.2.2 < (0:Int))) then
           some (71:Int)
          else
           bif (decide (o.2.2.2 > (65535:Int))) then
            some (71:Int)
           else
            some (0:Int))=some (Yk3 o):=by
 rw [YRs,Yiu,Ywo,Yiu,Y6r]
 unfold Yk3
 cases (o.1 !=(0:Int)) with
 | true=> rfl
 | false=>
  rw [Yhu,Yhu]
  cases (!(Yu4 o.2.1).2) with
  | true=> rfl
  | false=>
   rw [Yhu,Yhu]
   cases (!(YP2 o.2.2.1.1)) with
   | true=> rfl
   | false=>
    rw [Yhu,Yhu]
    cases (Yw1 o.2.2.1 !=0) with
    | true=> rfl
    | false=>
     rw [Yhu,Yhu]
     cases decide (o.2.2.2 < (0:Int)) with
     | true=> rfl
     | false=>
      rw [Yhu,Yhu]
      cases decide (o.2.2.2 > (65535:Int)) <;> rfl
theorem YOs (o:D37):Y2a o=some (Yr1 o):=by
 rw [YUo,Ylj,YNs o]
 unfold Yr1
 cases decide (o.1 > 0) with
 | false=> rfl
 | true=>
  rw [Ygu,Y5v]
  show (bif eqO o (opq o.1) then some 0 else some (Yk3 o))=_
  cases eqO o (opq o.1) <;> rfl
theorem YVt {o:D37} (h:Yr1 o=0) (h1:¬o.1 > 0):YP2 o.2.2.1.1=true:=by
 unfold Yr1 at h
 rw [Yfu h1,Bool.false_and,Yhu] at h
 unfold Yk3 at h
 cases a:(o.1 !=(0:Int)) with
 | true=> rw [a] at h; cases h
 | false=>
  rw [a,Yhu] at h
  cases b:(!(Yu4 o.2.1).2) with
  | true=> rw [b] at h; cases h
  | false=>
   rw [b,Yhu] at h
   cases c:YP2 o.2.2.1.1 with
   | true=> rfl
   | false=> rw [c] at h; cases h
theorem YWt {o:D37} (h:Yr1 o=0) (h1:¬o.1 > 0):o.1=0:=by
 unfold Yr1 at h
 rw [Yfu h1,Bool.false_and,Yhu] at h
 unfold Yk3 at h
 cases a:(o.1 !=(0:Int)) with
 | true=> rw [a] at h; cases h
 | false=> exact (bne_eq_false_iff_eq.1 a)
theorem YSs (o:D37) (hn:o.2.2.1.2.1.length<=1073741823):Y3a o=some (YV3 o):=by
 have tl1:∀ x,Z28 x o=some (YF2 o.2.1):=fun x=> by
  rw [Y8j]
  unfold YF2
  cases (o.2.1==([104,116,116,112,115]:List UInt8)) <;> rfl
 have tl2:∀ x,Z38 x o=some (YF2 o.2.1):=fun x=> by rw [Ybj,tl1]
 have tl3:∀ x,Z48 x o=some (YF2 o.2.1):=fun x=> by rw [Yij,tl2]
 rw [YWo,Y1j,YOs,Yiu,tl1,tl2,tl3,YLs _ hn,Yiu]
 unfold YV3
 by_cases h0:Yr1 o=0
 ·rw [show (Yr1 o !=0)=false from by rw [h0]; rfl,Yhu,Yhu]
  by_cases h1:o.1 > 0
  ·rw [Yeu h1]; rfl
  ·rw [Yfu h1,Yhu,Yhu]
   have hk:=YVt h0 h1
   unfold YVb
   cases h2:(o.2.2.1.1==(2:Int)) with
   | true=>
    rw [Ygu,Ygu]
    cases (shr IntKind.u32 o.2.2.1.2.2.1 24==127) <;> rfl
   | false=>
    rw [Yhu,Yhu]
    cases h3:(o.2.2.1.1==(3:Int)) with
    | true=>
     rw [Ygu,Ygu]
     cases (Ty.beq (.arr 8 (.int .u16)) o.2.2.1.2.2.2 (List.set (Ty.zero (.arr 8 (.int .u16))) 7 (1:Int))) <;> rfl
    | false=>
     unfold YP2 at hk
     rw [h2,h3,Bool.or_false,Bool.or_false] at hk
     rw [Yhu,Yhu,hk,Ygu]
     cases Y66 (Yu2 o.2.2.1.2.1) Y86 <;> rfl
 ·rw [show (Yr1 o !=0)=true from bne_iff_ne.2 h0]; rfl
def Yeg (e:D87):Prop:=mayC e.1 e.2=0/\okSt e.1 e.2
theorem YFr {o:D37} {h:List Int} (hm:mayC o h=0):Yr1 o=0/\¬o.1 > 0/\YV3 o=true:=by
 unfold mayC at hm
 cases a:(Yr1 o !=0) with
 | true=> rw [a] at hm; cases hm
 | false=>
  rw [a,Yhu] at hm
  cases b:decide (o.1 > 0) with
  | true=> rw [b] at hm; cases hm
  | false=>
   rw [b,Yhu] at hm
   cases c:YV3 o with
   | false=> rw [c] at hm; cases hm
   | true=> exact ⟨bne_eq_false_iff_eq.1 a,of_decide_eq_false b,rfl⟩
theorem Yqa {o:D37} {e:D87}:∀ {r:List D87},e∈delO o r->e∈r
 | [],h=> h
 | x::l,h=> by
  unfold delO at h
  cases c:eqO x.1 o with
  | true=> rw [c] at h; exact Y0v _ h
  | false=>
   rw [c,Yhu] at h
   rcases Yuu.1 h with rfl | h
   ·exact List.mem_cons_self
   ·exact Y0v _ (Yqa h)
theorem Yss {m:Int} {r:List D87} {o:D37} {h:List Int} {e:D87} (he:e∈putO m r o h):e∈r\/e=(o,h):=by
 unfold putO at he
 rcases YAu.1 he with he | he
 ·left
  cases c:(!(getO o r).isSome&&((delO o r).length==m.toNat)) with
  | true=> rw [c,Ygu] at he; exact Yqa (List.mem_of_mem_drop he)
  | false=> rw [c,Yhu] at he; exact Yqa he
 ·right; exact YNu.1 he
theorem Yrs (m:Int) (r:List D87) (o:D37) (h:List Int):(putO m r o h).length<=r.length+1:=by
 have hd:=Ypa o r
 unfold putO
 rw [You,Y8v]
 cases (!(getO o r).isSome&&((delO o r).length==m.toNat)) with
 | true=> rw [Ygu,Yzu]; omega
 | false=> rw [Yhu]; omega
theorem Y0h (S:List D40) (L:List D37) (hL:L.length<=1000000000) (hg:∀ o∈L,∃ h,Yeg (o,h)):∀ (k i:Nat),i+k=L.length->Z08 S (i:Int) L=some true
 | 0,i,hk=> by rw [Yoc,Yg,Yfu (by omega),Yhu]
 | k+1,i,hk=> by
  have hw:IntKind.i64.wrap ((i:Int)+1)=((i+1:Nat):Int):=by rw [w64 (by omega) (by omega)]; omega
  have hgd:L.getD i (Ty.zero T37)=L[i]'(by omega):=by rw [Yvu,Ywu (by omega)]; rfl
  obtain ⟨h,h1,h2⟩:=hg (L[i]'(by omega)) (List.getElem_mem _)
  obtain ⟨f1,f2,f3⟩:=YFr h1
  rw [Yoc,Yg,Yeu (by omega),Ygu,Yj,Yeu (by omega),Ygu,Ymu,hgd,YSs _ h2.2.1,Yiu,f3,hw,Y0h S L hL hg k (i+1) (by omega)]
  rw [show ((L[i]'(by omega)).1 !=(0:Int))=false from by rw [YWt f1 f2]; rfl]
  rfl
theorem YUa (S:List D40) (hS:okL S):∀ (k i:Nat),i+k=S.length->∀ r:List D87,r.length<=i->(∀ e∈r,Yeg e)->Zz7 S (i:Int) 8 r=some true
 | 0,i,hk,r,hr,hg=> by
  have hSl:=hS.1
  rw [YOd,Yg,Yfu (by omega),Yhu,Y5s 8 r (by omega) (by omega) (fun e he=> (hg e he).2.2.2),Yiu]
  refine Y0h S (r.map (·.1)) (by rw [YVu]; omega) ?_ (r.map (·.1)).length 0 (by omega)
  intro o ho
  obtain ⟨e,he,rfl⟩:=List.mem_map.1 ho
  exact ⟨e.2,hg e he⟩
 | k+1,i,hk,r,hr,hg=> by
  have hSl:=hS.1
  have hw:IntKind.i64.wrap ((i:Int)+1)=((i+1:Nat):Int):=by rw [w64 (by omega) (by omega)]; omega
  have hgd:S.getD i (Ty.zero T40)=S[i]'(by omega):=by rw [Yvu,Ywu (by omega)]; rfl
  have hok:okSt (S.getD i (Ty.zero T40)).2.1 (S.getD i (Ty.zero T40)).2.2:=by rw [hgd]; exact hS.2 _ (List.getElem_mem _)
  rw [YOd,Yg,Yeu (by omega),Ygu,Yj,Yeu (by omega),Ygu,Ygu,Ymu]
  generalize S.getD i (Ty.zero T40)=e at hok
  obtain ⟨wh,o,h⟩:=e
  dsimp only at hok ⊢
  have hh0:=hok.2.2
  rw [Yvs 8 _ o h (by omega) (by omega) (by omega) _ (YGr o h hok),Yiu]
  by_cases c:mayC o h=0
  ·rw [Yku c]
   dsimp only
   rw [hw]
   refine YUa S hS k (i+1) (by omega) _ (Nat.le_trans (Yrs 8 r o h) (by omega)) fun e he=> ?_
   rcases Yss he with he | rfl
   ·exact hg e he
   ·exact ⟨c,hok⟩
  ·rw [Yju c]
   dsimp only
   rw [hw]
   exact YUa S hS k (i+1) (by omega) r (by omega) hg
theorem Yir (S:List D40) (hS:okL S) (ha:Yx9 ()=some true):Yte S=some true:=by
 rw [Y3n,YOl,ha,Yiu,YEu,Yhu,YIr,Yiu,Yku (by omega)]
 dsimp only
 rw [Option.elim_some,YLr,Yiu,show ((0:Int) !=0)=false from rfl,Yhu]
 exact YUa S hS S.length 0 (by omega) [] (by simp) (by simp)
end Go.Abs
