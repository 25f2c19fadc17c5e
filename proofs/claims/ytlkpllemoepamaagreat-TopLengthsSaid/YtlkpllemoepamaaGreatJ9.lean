/- Laws and walks. No condition beyond what each says. -/
import Derived.Test.YtlkpllemoepamaaGreatJ8
namespace Go.Proofs.YtlkpllemoepamaaGreat
open Go Go.Gm Tryz
set_option linter.unusedVariables false
set_option linter.unusedSimpArgs false
set_option maxHeartbeats 4000000
set_option maxRecDepth 8000
section
variable {P:Program} {t t2 e ty:TypeId} {pos:String} {af:Array Edge} {g:Option (Nat×Bool)} {x y:Operand} {ps qs:List (Nat×SF)} {α:Type} {R:α→List PV} {l s:List α} {sz:Nat} {v:Value}
theorem ZlM {d':Nat} (n:Nat) (hu:P.underlying t=some (.slice e)) (hs:(P.info? e).map (·.size)=some sz) (hR:∀ x,(R x).length=sz) (hx:Opd x ps (.pv (.is v))) (hy:Opd y qs (.pv (.sl R s))) (hk:s.length≤l.length) :
  OpC P ⟨some d',.call { callee:=.builtin .copy,args:=#[x,y],argTypes:=#[t,t2] },ty,pos,af,g⟩ ⟨ps++qs,[(n,.ob (.val v) (ZA e sz R l))],.pv .any,[(n,.ob (.val v) (ZA e sz R (s++l.drop s.length)))]⟩:=fun act w F K Q hw hp hr ht=>by
 obtain ⟨xs,r1,r2,r3⟩:=id (hr (n,.ob (.val v) (ZA e sz R l)) (by simp))
 obtain ⟨ad,cap,ev,_,_,_⟩:=ZL r1
 simp only [Anc.v] at ev
 by_cases hs0:s = []
 ·subst hs0
  obtain ⟨sa,sc,es,_,_,_⟩:=hy act w (U F) hp.right
  have ex:act.eval x = .slice ad l.length cap:=by rw [(hx act w (U F) hp.left).1,ev]
  have hrun:(execOp act.eval ⟨some d',.call { callee:=.builtin .copy,args:=#[x,y],argTypes:=#[t,t2] },ty,pos,af,g⟩).run P w = .ok (.value (goInt 0)) w:=by
   cases ad <;> cases sa <;> simp [execOp,resolve,invoke,builtin,ex,es,Builtin.copy_,Ym hu,Builtin.lenOf,Builtin.firstCells,Go.Gm.run_sizeOf hs,goInt,storeCells,loadCells,loadCellsFrom]
  simp only [Oper.wp,hrun,Oper.upon]
  refine ht _ _ F hw ⟨rfl,rfl,rfl,YL _,fun _ _ _=>rfl,fun _ _=>rfl,fun n hn b hb=>.inl ⟨n,hn,hb⟩⟩ trivial ?_
  intro z' hz'
  simp only [Yi] at hz'
  subst hz'
  exact hr (n,.ob (.val v) (ZA e sz R l)) (by simp)
 ·have hsl0:0<s.length:=Yap.2 hs0
  have hv:Zh6 sz 0 v=v:=by
   rcases r1.2 with ⟨_,hn0⟩ | ⟨b,cap,cur,ev,_⟩
   ·omega
   ·simp only [Anc.v] at ev
    rw [ev];simp [Zh6]
  have h:=o_copy_sub (P:=P) (t2:=t2) (ty:=ty) (pos:=pos) (af:=af) (g:=g) (s:=s) (l:=l) (v:=v) (k:=0) (d':=d') n hu hs hR (by rw [hv];exact hx) hy hs0 ow
  rw [List.take_zero,Yam,Y7] at h
  exact h act w F K Q hw hp hr ht
end
theorem ZlJ (x m:Nat) (hx:x<18446744073709551616) (hm:m<18446744073709551616):bits .and .u64 (x:Int) (m:Int)=((x &&& m:Nat):Int):=by
 have h1:(BitVec.ofInt 64 (x:Int)).toNat=x:=by rw [Ya1];omega
 have h2:(BitVec.ofInt 64 (m:Int)).toNat=m:=by rw [Ya1];omega
 show IntKind.wrap .u64 (((BitVec.ofInt 64 (x:Int) &&& BitVec.ofInt 64 (m:Int)).toNat:Nat):Int)=_
 rw [YbH,h1,h2]
 exact ZaO (by have:=Nat.and_lt_two_pow (n:=64) x (y:=m) ow;omega)
theorem ZrX {n:Nat} (h:n≤65536):IntKind.wrap .i64 ((n:Int)*2 ^ min (1:Int).toNat (IntKind.bits .i64))=((2*n:Nat):Int):=by
 have:min (1:Int).toNat (IntKind.bits .i64)=1:=by decide
 rw [this,ZC ow];omega
def growN (n:Nat):Nat:=if n=0 then 1 else 2*n
theorem Zg4 {n:Nat} (h:n≤65536):(if (1:Int)<IntKind.wrap .i64 ((n:Int)*2 ^ min (1:Int).toNat (IntKind.bits .i64)) then IntKind.wrap .i64 ((n:Int)*2 ^ min (1:Int).toNat (IntKind.bits .i64)) else 1)=((growN n:Nat):Int):=by
 rw [ZrX h]
 unfold growN
 split <;> split <;> omega
theorem ZoD {n:Nat} (h:n≤65536) (hp:n=0 ∨ ∃ k,k≤17∧n=2 ^ k):∃ k,k≤17∧growN n=2 ^ k:=by
 unfold growN
 rcases hp with rfl | ⟨k,hk,rfl⟩
 ·exact ⟨0,by decide,rfl⟩
 ·have h0:2 ^ k≠0:=by simp
  rw [Yb h0]
  refine ⟨k+1,?_,by rw [Nat.pow_succ];omega⟩
  refine Yad (Nat.lt_of_not_le fun h2=>?_)
  have:2 ^ 17≤2 ^ k:=Nat.pow_le_pow_right (by decide) ow
  omega
structure ZfO (room:Int) (c:List Int) (f:Nat) (l:List Int):Prop where
 r0:0≤room
 r1:room≤65536
 fits:(l.length:Int)≤room
 le:l.length≤c.length
 pow:(c.length=0∧f=0)∨(f<c.length ∧ ∃ k,k≤17∧c.length=2 ^ k)
 cells:∀ j,j<l.length→Nn c ((f+j) % c.length)=Nn l j
theorem Zr7 {n f j k:Nat} (h1:j<k) (h2:k<n):(f+j) % n≠(f+k) % n:=by
 intro e
 have h:=Nat.sub_mod_eq_zero_of_mod_eq e.symm
 rw [show f+k - (f+j)=k - j by omega,Nat.mod_eq_of_lt ow] at h
 omega
theorem ZfO.new {n:Int} (h:0≤n∧n≤65536):ZfO n [] 0 []:=⟨h.1,h.2,h.1,YL _,.inl ⟨rfl,rfl⟩,fun j hj=>absurd hj (Y9 j)⟩
theorem Zqr {l:List Int} {x:Int} {j:Nat} : Nn (l ++ [x]) j=if j<l.length then Nn l j else if j=l.length then x else default:=by
 by_cases h:j<l.length
 ·rw [Ye h,nth_eq (by simp;omega),nth_eq h,List.getElem_append_left h]
 ·rw [Yb h]
  by_cases e:j=l.length
  ·subst e;rw [Ye rfl,nth_eq (by simp)];simp
  ·rw [Yb e];unfold Nn;simp [Yat,show l.length+1≤j by omega]
theorem ZfO.put {room:Int} {c:List Int} {f:Nat} {l:List Int} {x:Int} (h:ZfO room c f l) (hl:(l.length:Int)<room) (hc:l.length<c.length):ZfO room (c.set ((f+l.length) % c.length) x) f (l ++ [x]):=by
 obtain ⟨h0,h1,h2,h3,h4,h5⟩:=h
 have hm:∀ j,(f+j) % c.length<c.length:=fun j=>YbC _ ow
 refine ⟨h0,h1,by simp;omega,by simp;omega,?_,fun j hj=>?_⟩
 ·rcases h4 with h4 | ⟨h4,k,h6,h7⟩
  ·omega
  ·exact .inr ⟨by simpa using h4,k,h6,by simpa using h7⟩
 ·rw [Yd,Yar] at hj
  rw [YR,Zce (hm _),Zqr]
  by_cases e:j=l.length
  ·subst e;rw [Ye rfl,Yb (Nat.lt_irrefl _),Ye rfl]
  ·rw [Yb fun k=>Zr7 (show j<l.length by omega) hc k,Ye ow]
   exact h5 j ow
theorem ZfO.tail {room:Int} {c:List Int} {f:Nat} {x:Int} {l:List Int} (h:ZfO room c f (x :: l)):ZfO room c ((f+1) % c.length) l:=by
 obtain ⟨h0,h1,h2,h3,h4,h5⟩:=h
 rw [Yl] at h2 h3 h5
 have hc:0<c.length:=by omega
 have e:∀ j,j<l.length→Nn (x :: l) (j+1)=Nn l j:=fun j hj=>by rw [nth_eq (by simpa using hj),nth_eq hj];rfl
 refine ⟨h0,h1,by omega,by omega,?_,fun j hj=>?_⟩
 ·rcases h4 with h4 | ⟨h4,k⟩
  ·omega
  ·exact .inr ⟨YbC _ hc,k⟩
 ·rw [Nat.mod_add_mod,← e j hj,← h5 (j+1) ow]
  congr 2;omega
theorem ZfO.first {room:Int} {c:List Int} {f:Nat} {x:Int} {l:List Int} (h:ZfO room c f (x :: l)):Nn c ((f+0) % c.length)=x:=by
 rw [h.cells 0 (by simp),nth_eq (by simp)];rfl
theorem ZfO.grow {room:Int} {l d:List Int} (h0:0≤room) (h1:room≤65536) (h2:(l.length:Int)≤room) (h3:l.length≤d.length) (ht:d.take l.length=l) (hp:∃ k,k≤17∧d.length=2 ^ k):ZfO room d 0 l:=by
 have hd:0<d.length:=by obtain ⟨k,_,e⟩:=hp;rw [e];exact Nat.pos_of_ne_zero (by simp)
 refine ⟨h0,h1,h2,h3,.inr ⟨hd,hp⟩,fun j hj=>?_⟩
 rw [Y7,Nat.mod_eq_of_lt ow]
 have e:(d.take l.length)[j]? = l[j]?:=by rw [ht]
 rw [Ybj hj,Yan hj] at e
 obtain ⟨h2,e2⟩:=YG.1 e
 rw [nth_eq h2,nth_eq hj,e2]
theorem ZfO.ring {room:Int} {c:List Int} {f:Nat} {l:List Int} (h:ZfO room c f l) (hc:0<c.length):(∃ k,k≤17∧c.length=2 ^ k)∧f<c.length:=by
 rcases h.pow with ⟨h1,_⟩ | ⟨h1,h2⟩
 ·omega
 ·exact ⟨h2,h1⟩
theorem ZfO.pow0 {room:Int} {c:List Int} {f:Nat} {l:List Int} (h:ZfO room c f l):c.length=0 ∨ ∃ k,k≤17∧c.length=2 ^ k:=by
 rcases h.pow with ⟨h1,_⟩ | ⟨_,h2⟩
 ·exact .inl h1
 ·exact .inr h2
def ZtS (v rv:Value) (room:Int) (n f:Nat) (c:List Int):List RS:=[.pt (.val v) 303 [.pv (.int .i64 room),.pv (.is rv),.pv (.int .u64 (f:Int)),.pv (.int .i64 (n:Int))],.ob (.val rv) (ZA 3 1 Zo c)]
def rqH (v:Value) (room:Int) (l:List Int):HP:=.ex fun rv:Value=>.ex fun c:List Int=>.ex fun f:Nat=>.and (ZfO room c f l) (.star (ZtS v rv room l.length f c))
theorem ZmP {v:Value} {room:Int} {l:List Int} {w:World} {f y:Ys} (h:(rqH v room l).p w f y):∃ b,v = .pointer (some ⟨b,0,none⟩):=by
 obtain ⟨rv,c,f,_,g⟩:=h
 exact HP.star_pt g
theorem Zr8 {f i n:Nat} {z:Int} (hz:z=i) (hp:∃ k,k≤17∧n=2 ^ k) (hf:f<n) (hi:i≤n):bits .and .u64 (IntKind.wrap .u64 ((f:Int)+IntKind.wrap .u64 z)) (IntKind.wrap .u64 (IntKind.wrap .i64 ((n:Int) - 1)))=(((f+i) % n:Nat):Int):=by
 subst hz
 obtain ⟨k,hk,rfl⟩:=hp
 have h17:2 ^ k≤2 ^ 17:=Nat.pow_le_pow_right (by decide) hk
 have h0:0<2 ^ k:=Nat.pos_of_ne_zero (by simp)
 have e1:IntKind.wrap .u64 ((f:Int)+IntKind.wrap .u64 (i:Int))=((f+i:Nat):Int):=by rw [ZaO (x:=(i:Int)) ow,ZaO ow];omega
 have e2:IntKind.wrap .u64 (IntKind.wrap .i64 (((2 ^ k:Nat):Int) - 1))=((2 ^ k - 1:Nat):Int):=by rw [ZC ow,ZaO ow];omega
 rw [e1,e2,ZlJ _ _ ow ow,Nat.and_two_pow_sub_one_eq_mod]
theorem ZcE (c:List Int) (room:Int) (n f i:Nat) (z:Int) (hz:z=i) (hp:∃ k,k≤17∧c.length=2 ^ k) (hf:f<c.length) (hi:i≤c.length):FnP prog 230 [.ref [.int .i64 room,.sl Zo c,.int .u64 (f:Int),.int .i64 (n:Int)],.int .i64 z] (.int .u64 (((f+i) % c.length:Nat):Int)):=by
 refine FnP.mk func230 rfl ntmps230 rfl fun B a w F Z hfr G=>Ya ?_
 refine rZ G (qI qZ) Z [4,1,0] [0] fun G=>Ya ?_
 refine Zz G (qR rr (qf (ZR .t) r1 qz (qf (oG 2 .t) r1 qz (qf (oR false 1 .t) r1 qz (qR rr (qf (Zat Yb8 kr .t) r1 qz (qf (o_add .t .t) r2 qz (qR rr (qf (ZR .t) r1 qz (qf (oG 1 .t) r1 qz (qf (oR false 1 .t) r1 qz (qu YbZ r1 (qf (o_sub .t qi) r1 qz (qf (Zat Yb8 kr .t) r1 qz (qf (Zde .t .t) r2 qz (qO rr qZ)))))))))))))))) Z [4] [0] rfl rfl fun a w F G=>?_
 try dsimp only [List.map,xD,xE,xT,xU,ldSF,Zo] at G
 refine Za (Yh (Zw hfr G rfl rfl rfl (.int (Zr8 hz hp hf hi))))
theorem ZiX (room n:Int) (p q:PV):FnP prog 248 [.ref [.int .i64 room,p,q,.int .i64 n]] (.int .i64 n):=by
 refine FnP.mk func248 rfl ntmps248 rfl fun B a w F Z hfr G=>Ya ?_
 refine rZ G (qI qZ) Z [2,0] [0] fun G=>(Ya (Ya ?_))
 refine rZ G (qR rr (qf (ZeV underlying283 .t) r1 qz qZ)) Z [4,2,0] [0] fun G=>?_
 refine Zc G rfl (fun hc0=>?_) (fun hc0=>?_)
 ·simp at hc0
 refine Yf (Za (Ya (rZ G (qR rr (qf (ZR .t) r1 qz (qf (oG 3 .t) r1 qz (qf (oR false 1 .t) r1 qz (qO rr qZ))))) Z [2] [0] fun G=>Yh ?_)))
 refine Zw hfr G rfl rfl rfl .refl
theorem ZpO (room n:Int) (p q:PV) (hr:0≤room∧room≤65536) (hn:0≤n∧n≤65536):FnP prog 228 [.ref [.int .i64 room,p,q,.int .i64 n]] (.int .i64 (room - n)):=by
 refine FnP.mk func228 rfl ntmps228 rfl fun B a w F Z hfr G=>Ya ?_
 refine rZ G (qI qZ) Z [2,0] [0] fun G=>(Ya (Ya ?_))
 refine rZ G (qR rr (qf (ZeV underlying283 .t) r1 qz qZ)) Z [4,2,0] [0] fun G=>?_
 refine Zc G rfl (fun hc0=>?_) (fun hc0=>?_)
 ·simp at hc0
 refine Yf (Za (Ya (Zz G (qR rr (qf (ZR .t) r1 qz (qf (oG 0 .t) r1 qz (qf (oR false 1 .t) r1 qz (qR rr (qf (ZR .t) r1 qz (qf (oG 3 .t) r1 qz (qf (oR false 1 .t) r1 qz (qf (o_sub .t .t) r2 qz (qO rr qZ)))))))))) Z [2] [0] rfl rfl fun a w F G=>?_)))
 try dsimp only [List.map,xD,xE,xT,xU,ldSF,Zo] at G
 refine Za (Yh (Zw hfr G rfl rfl rfl (.int (ZC ow))))
theorem ZpM (b:Nat) (room:Int) (l:List Int):FnG prog 229 1 [.is (.pointer (some ⟨b,0,none⟩))] [rqH (.pointer (some ⟨b,0,none⟩)) room l] (.sl Zo l) (fun _=>[rqH (.pointer (some ⟨b,0,none⟩)) room l]):=by
 refine FnG.mk func229 rfl ntmps229 rfl kr fun B F0 a w F Z hG G=>?_
 obtain ⟨rv,G⟩:=G.open_ex 1 rfl
 obtain ⟨c,G⟩:=G.open_ex 1 rfl
 obtain ⟨f,G⟩:=G.open_ex 1 rfl
 obtain ⟨hI,G⟩:=G.open_and 1 rfl
 obtain ⟨F,G⟩:=G.peel 1 2 rfl rfl
 obtain ⟨F,G⟩:=G.peel 1 3 rfl rfl
 have hle:=hI.le
 have hfit:=hI.fits
 have hr0:=hI.r0
 have hr1:=hI.r1
 obtain ⟨F,G⟩:=G.nM [0] [3,2,0]
 refine Ya (rZ G (qC qZ) Z [2,0] [3,2,0] fun G=>Ya ?_)
 refine rZ G (qC qZ) Z [3,2,0] [3,2,0] fun G=>(Ya (Ya ?_))
 refine rZ G (qR rr (qf (Zjc (cells:=[.pv _,.pv _,.pv _,.pv _]) 2 (ZiX room l.length _ _) (fun _ _ _ _ _ h=>h) rfl func248 rfl kr (Zaq.one .is)) r1 r1 (qJ qZ))) Z [7,6,3,2,0] [3,2,0] fun G=>Yg ?_
 replace G:=G.fresh 50 rfl
 replace G:=G.turn 50 rfl (ZaP (T:=3) (sz:=1) (R:=Zo))
 refine Zl (σ:=(Nat)×(Value)×(List Int)) [0,2,6] [0,2,3] (fun s=>[(7,.pv (.int .i64 (s.1:Int))),(3,.pv (.is s.2.1))]) (fun s=>[(50,.ob (.val s.2.1) (ZA 3 1 Zo s.2.2))]) (fun s=>s.1≤l.length∧(s.2.2=l.take s.1)) (fun s=>l.length - s.1) ((0),(.slice none 0 0),([])) G ⟨rfl,rfl,rfl,rfl,rfl,tv⟩ ⟨rfl,rfl,rfl,rfl,tv⟩ ⟨Yw _,rfl⟩ ?_
 clear G;intro s a w F hC G
 obtain ⟨i,v,out⟩:=s
 try dsimp only at hC
 obtain ⟨F,G⟩:=G.nM [7,6,3,2,0] [50,3,2,0]
 try dsimp only at G
 obtain ⟨hi,hq⟩:=hC
 have hol:out.length≤i:=by rw [hq,Yj];omega
 refine Ya (rZ G (qL r2) Z [8,7,6,3,2,0] [50,3,2,0] fun G=>Ya ?_)
 refine Zc G rfl (fun hc0=>?_) (fun hc0=>?_)
 ·have hil:i<l.length:=by simp at hc0;omega
  have hil2:i<l.length:=by simp at hc0;omega
  have hmi:(f+i) % c.length<c.length:=YbC _ ow
  have hnl:Nn c ((f+i) % c.length)=Nn l i:=hI.cells i hil2
  refine Yf (Za (Ya (Yg (Ya (rZ G (qR rr (qO rr qZ)) Z [7,6,4,3,2,0] [50,3,2,0] fun G=>?_)))))
  refine ZbI G (qR rr (qR rr (qf (Zs 2 .is (by rfl)) r1 r1 (qf (oF 1 2 .adr) r1 r1 (qa 2 r1 r1 (qR rr (qR rr (qf (ZdA (cells:=[.pv _,.pv (.is rv),.pv _,.pv _]) 2 3 1 (ZcE c room l.length f i (i:Int) rfl (hI.ring ow).1 (hI.ring ow).2 ow) (fun _ _ _ _ _ h=>h) rfl func230 rfl kr rfl rfl (Zaq.two .is .t)) r2 r2 (qf (o_indexAddr_row (sz:=1) 3 (.mk YbZ kr) .is .t ow ow (by rfl)) r2 r1 (qf (ZD (ag:=false) (sz':=1) (sz:=1) 3 .t (by intro x;rfl) ow kr kr kr) r1 r1 (qf (o_buildSliceE (sz:=1) (zs:=[.int .i64 0]) (r:=[(0,.tmp 19)]) (l:=[_]) YbZ kr kr kr kr rfl rfl (.one rfl .t one_int kr .nil) rfl) r1 qz (qf (Z1 (sz:=1) (bs:=8) 50 (.mk' YbZ kr kr) (by intro x;rfl) .is (.arr (l':=[_]) .t) (by simp only [Yl,Yy];omega) (by decide)) ⟨rfl,rfl,tv⟩ ⟨rfl,tv⟩ (qO rr qZ))))))))))))) Z [7,6,3,2,0] [50,3,2,0] (fun _=>rfl) (fun _=>rfl) fun τ a w F G=>?_
  try dsimp only [RS.sub,SF.sub,CF.sub,csub,Anc.sub,List.map,Zf,xL,xM,Nat.reduceAdd,xD,xE,xT,xU,xC,xN,zCF,ldSF,Zo] at G
  generalize τ 21=v21 at G
  try simp only [Yc] at G
  refine Zk (Za (rZ G (qp r1 (qR rr qZ)) Z [7,6,3,2,0] [50,3,2,0] fun G=>?_))
  replace G:=G.ent (i:=7) (s':=.pv (.int .i64 ((i+1:Nat):Int))) rfl (.int (Zd ow))
  obtain ⟨F,G⟩:=G.nM [6,2,0,3,7] [3,2,0,50]
  exact ⟨((i+1),_,_),F,⟨by omega,(by rw [hq,hnl,Zt hil])⟩,G,by omega⟩
 have hil:i=l.length:=by simp at hc0;omega
 refine Yx (Zj (Zj (Zr (Za (Ya (rZ G (qR rr (qO rr qZ)) Z [2] [50,3,2,0] fun G=>Yh ?_))))))
 obtain ⟨F,G⟩:=G.give 50 2 rfl rfl
 have G:=G.fresh 1 rfl
 obtain ⟨F,G⟩:=G.push 1 3 rfl rfl rfl kr
 obtain ⟨F,G⟩:=G.push 1 2 rfl rfl rfl kr
 have G:=G.turn 1 rfl (r':=RS.hp (rqH (.pointer (some ⟨b,0,none⟩)) room l)) (fun _ _ _ _ h=>⟨_,_,_,hI,h⟩)
 refine Za4 hG G rfl (.tmp rfl .nil) (.one (.sl (by rw [hq,hil,YC]))) rfl
theorem ZmG (n:Int):FnG prog 206 1 [.int .i64 n] [.star []] (PV.ptr) (fun v=>[rqH v (ZcB n) []]):=by
 refine FnG.mk func206 rfl ntmps206 rfl kr fun B F0 a w F Z hG G=>Ya ?_
 refine rZ G (qC qZ) Z [2,0] [1,0] fun G=>Ya ?_
 refine Zb G (qR rr (qf (oP (ZpT n) func199 (Args.one .t)) r1 qz (qf (oB [(0,.tmp 4)] [.int .i64 0,.slice none 0 0,.int .u64 0,.int .i64 0] [(0,1),(1,1),(2,1),(3,1)] (.one rfl .t one_int kr .nil)) r1 qz (qf (oX 101 .t) r1 qz (qO rr qZ))))) Z [2] [101,1,0] (fun _=>rfl) (fun _=>rfl) fun τ a w F G=>?_
 try dsimp only [RS.sub,SF.sub,CF.sub,csub,Anc.sub,List.map,Zf,xL,xM,Nat.reduceAdd,xD,xE,xT,xU,xC,xN,zCF,Zo] at G
 generalize τ 6=v6 at G
 refine Za (Yh ?_)
 obtain ⟨b,rfl⟩:=G.shape 101 rfl
 have G:=G.fresh 3 rfl
 have G:=G.turn 3 rfl (ZaP (T:=3) (sz:=1) (R:=Zo))
 obtain ⟨F,G⟩:=G.push 1 3 rfl rfl rfl kr
 obtain ⟨F,G⟩:=G.push 1 101 rfl rfl rfl kr
 have G:=G.turn 1 rfl (r':=RS.hp (rqH (.pointer (some ⟨b,0,none⟩)) (ZcB n) [])) (fun _ _ _ _ h=>⟨_,[],0,ZfO.new (ZmZ n),h⟩)
 refine Z9 (h':=fun v=>rqH v (ZcB n) []) hG G rfl (.tmp rfl .nil) (.one .ptr) rfl
theorem ZmL (c:List Int) (room:Int) (f:Nat) (x:Int) (l:List Int) (hI:ZfO room c f (x :: l)):FnP prog 231 [.ref [.int .i64 room,.sl Zo c,.int .u64 (f:Int),.int .i64 (((x :: l).length:Nat):Int)]] (.tup [.int .i64 x,.bool true]):=by
 refine FnP.mk func231 rfl ntmps231 rfl fun B a w F Z hfr G=>?_
 have hle:=hI.le
 rw [Yl] at hle
 have hmi:(f+0) % c.length<c.length:=YbC _ ow
 refine Ya (rZ G (qI qB) Z [3,2,0] [0] fun G=>(Ya (Ya ?_)))
 refine rZ G (qR rr (qf (oP (ZiX room _ _ _) func248 (Args.one .t)) r1 qz (qf (o_eql .t qi) r1 qz qZ))) Z [6,3,2,0] [0] fun G=>?_
 refine Zc G rfl (fun hc0=>?_) (fun hc0=>?_)
 ·simp at hc0;try omega
 refine Yf (Za (Ya (Zz G (qR rr (qf (ZR .t) r1 qz (qf (oG 1 .t) r1 qz (qf (oR false 1 .t) r1 qz (qR rr (qf (oP (ZcE c room (x :: l).length f 0 0 rfl (hI.ring ow).1 (hI.ring ow).2 ow) func230 (Args.two .t qi)) r1 qz (qy 1 YbZ r2 (qf (oR false 1 .t) r1 qz (qO rr qB))))))))) Z [3,2] [0] rfl rfl fun a w F G=>?_)))
 try dsimp only [List.map,xD,xE,xT,xU,ldSF,Zo] at G
 try simp only [Yc] at G
 try simp only [Yc] at G
 rw [hI.first] at G
 refine Za (Yh (Zad hfr G rfl (.tmp rfl (.tmp rfl .nil)) (.two .refl .refl)))
theorem ZlG (room:Int) (p q:PV):FnP prog 231 [.ref [.int .i64 room,p,q,.int .i64 0]] (.tup [.int .i64 0,.bool false]):=by
 refine FnP.mk func231 rfl ntmps231 rfl fun B a w F Z hfr G=>Ya ?_
 refine rZ G (qI qB) Z [3,2,0] [0] fun G=>(Ya (Ya ?_))
 refine rZ G (qR rr (qf (oP (ZiX room _ _ _) func248 (Args.one .t)) r1 qz (qf (o_eql .t qi) r1 qz qZ))) Z [6,3,2,0] [0] fun G=>?_
 refine Zc G rfl (fun hc0=>?_) (fun hc0=>?_)
 ·refine Ya (rZ G (qI qB) Z [3,2,0] [0] fun G=>(Yh (Zm ?_)))
  refine Zad hfr G rfl (.tmp rfl (.tmp rfl .nil)) (.two .refl .refl)
 simp at hc0
theorem Zp1 (b:Nat) (room:Int) (x:Int) (l:List Int):FnG prog 208 1 [.is (.pointer (some ⟨b,0,none⟩))] [rqH (.pointer (some ⟨b,0,none⟩)) room (x :: l)] (.tup [.int .i64 x,.bool true]) (fun _=>[rqH (.pointer (some ⟨b,0,none⟩)) room l]):=by
 refine FnG.mk func208 rfl ntmps208 rfl kr fun B F0 a w F Z hG G=>?_
 obtain ⟨rv,G⟩:=G.open_ex 1 rfl
 obtain ⟨c,G⟩:=G.open_ex 1 rfl
 obtain ⟨f,G⟩:=G.open_ex 1 rfl
 obtain ⟨hI,G⟩:=G.open_and 1 rfl
 obtain ⟨F,G⟩:=G.peel 1 2 rfl rfl
 obtain ⟨F,G⟩:=G.peel 1 3 rfl rfl
 have hle:=hI.le
 have hfit:=hI.fits
 have hr0:=hI.r0
 have hr1:=hI.r1
 obtain ⟨F,G⟩:=G.nM [0] [3,2,0]
 rw [Yl] at hle hfit
 have hw1:IntKind.wrap .i64 ((((x :: l).length:Nat):Int) - 1)=((l.length:Nat):Int):=by rw [Yl,ZC ow];omega
 refine Ya (rZ G (qI qB) Z [3,2,0] [3,2,0] fun G=>Ya ?_)
 refine rZ G (qR rr (qf (ZdA (cells:=[.pv _,.pv (.is rv),.pv _,.pv _]) 2 3 1 (ZmL c room f x l hI) Zjy rfl func231 rfl kr rfl rfl (Zaq.one .is)) r1 r2 (qR rr (qf (Zh .t rfl) r1 qz (qf (Zh .t rfl) r1 qz (qO rr (qO rr qZ))))))) Z [5,4,3,2,0] [3,2,0] fun G=>(Ya (Ya ?_))
 refine rZ G (qR rr qZ) Z [11,5,4,3,2,0] [3,2,0] fun G=>?_
 refine Zc G rfl (fun hc0=>?_) (fun hc0=>?_)
 ·refine Ya (rZ G (qR rr (qR rr (qf (ZdA (cells:=[.pv _,.pv (.is rv),.pv _,.pv _]) 2 3 1 (ZcE c room (x :: l).length f 1 1 rfl (hI.ring ow).1 (hI.ring ow).2 ow) (fun _ _ _ _ _ h=>h) rfl func230 rfl kr rfl rfl (Zaq.two .is qi)) r1 r2 (qf (Zs 2 .is (by rfl)) r1 r1 (qf (oF 2 2 .adr) r1 r1 (qf (Zbd 2 .adr .t one_int kr kr) r2 r1 qZ)))))) Z [5,4,3,2,0] [3,2,0] fun G=>?_)
  refine Zg G (qR rr (qf (Zs 2 .is (by rfl)) r1 r1 (qf (oF 3 2 .adr) r1 r1 (qa 2 r1 r1 (qf (o_sub .t qi) r1 qz (qf (Zs 2 .is (by rfl)) r1 r1 (qf (oF 3 2 .adr) r1 r1 (qf (Zbd 2 .adr .t one_int kr kr) r2 r1 qZ)))))))) Z [5,4,3,2] [3,2,0] rfl rfl fun a w F G=>?_
  rw [hw1] at G
  refine Za (Ya (rZ G (qR rr (qR rr (qO rr (qO rr qZ)))) Z [3,2] [3,2,0] fun G=>Yh ?_))
  have G:=G.fresh 1 rfl
  obtain ⟨F,G⟩:=G.push 1 3 rfl rfl rfl kr
  obtain ⟨F,G⟩:=G.push 1 2 rfl rfl rfl kr
  have G:=G.turn 1 rfl (r':=RS.hp (rqH (.pointer (some ⟨b,0,none⟩)) room l)) (fun _ _ _ _ h=>⟨_,_,_,hI.tail,h⟩)
  refine Za4 hG G rfl (.tmp rfl (.tmp rfl .nil)) (.two .refl .refl) rfl
 simp at hc0
theorem Zp7 (b:Nat) (room:Int):FnG prog 208 1 [.is (.pointer (some ⟨b,0,none⟩))] [rqH (.pointer (some ⟨b,0,none⟩)) room []] (.tup [.int .i64 0,.bool false]) (fun _=>[rqH (.pointer (some ⟨b,0,none⟩)) room []]):=by
 refine FnG.mk func208 rfl ntmps208 rfl kr fun B F0 a w F Z hG G=>?_
 obtain ⟨rv,G⟩:=G.open_ex 1 rfl
 obtain ⟨c,G⟩:=G.open_ex 1 rfl
 obtain ⟨f,G⟩:=G.open_ex 1 rfl
 obtain ⟨hI,G⟩:=G.open_and 1 rfl
 obtain ⟨F,G⟩:=G.peel 1 2 rfl rfl
 obtain ⟨F,G⟩:=G.peel 1 3 rfl rfl
 have hle:=hI.le
 have hfit:=hI.fits
 have hr0:=hI.r0
 have hr1:=hI.r1
 obtain ⟨F,G⟩:=G.nM [0] [3,2,0]
 refine Ya (rZ G (qI qB) Z [3,2,0] [3,2,0] fun G=>Ya ?_)
 refine rZ G (qR rr (qf (Zjc (cells:=[.pv _,.pv _,.pv _,.pv _]) 2 (ZlG room _ _) Zjy rfl func231 rfl kr (Zaq.one .is)) r1 r1 (qR rr (qf (Zh .t rfl) r1 qz (qf (Zh .t rfl) r1 qz (qO rr (qO rr qZ))))))) Z [5,4,3,2,0] [3,2,0] fun G=>(Ya (Ya ?_))
 refine rZ G (qR rr qZ) Z [11,5,4,3,2,0] [3,2,0] fun G=>?_
 refine Zc G rfl (fun hc0=>?_) (fun hc0=>?_)
 ·simp at hc0
 refine Yf (Za (Ya (rZ G (qR rr (qR rr (qO rr (qO rr qZ)))) Z [3,2] [3,2,0] fun G=>Yh ?_)))
 have G:=G.fresh 1 rfl
 obtain ⟨F,G⟩:=G.push 1 3 rfl rfl rfl kr
 obtain ⟨F,G⟩:=G.push 1 2 rfl rfl rfl kr
 have G:=G.turn 1 rfl (r':=RS.hp (rqH (.pointer (some ⟨b,0,none⟩)) room [])) (fun _ _ _ _ h=>⟨_,_,_,hI,h⟩)
 refine Za4 hG G rfl (.tmp rfl (.tmp rfl .nil)) (.two .refl .refl) rfl
theorem Zha (b:Nat) (room:Int) (l:List Int):FnG prog 208 1 [.is (.pointer (some ⟨b,0,none⟩))] [rqH (.pointer (some ⟨b,0,none⟩)) room l] (.tup [.int .i64 (l.headD 0),.bool (decide (l≠[]))]) (fun _=>[rqH (.pointer (some ⟨b,0,none⟩)) room l.tail]):=by
 cases l with
 | nil=>exact Zp7 b room
 | cons x l=>exact Zp1 b room x l
theorem Zcl (b:Nat) (room:Int) (l:List Int) (x:Int) (hrm:(l.length:Int)<room):FnG prog 207 1 [.is (.pointer (some ⟨b,0,none⟩)),.int .i64 x] [rqH (.pointer (some ⟨b,0,none⟩)) room l] (.int .i64 0) (fun _=>[rqH (.pointer (some ⟨b,0,none⟩)) room (l ++ [x])]):=by
 refine FnG.mk func207 rfl ntmps207 rfl kr fun B F0 a w F Z hG G=>?_
 obtain ⟨rv,G⟩:=G.open_ex 1 rfl
 obtain ⟨c,G⟩:=G.open_ex 1 rfl
 obtain ⟨f,G⟩:=G.open_ex 1 rfl
 obtain ⟨hI,G⟩:=G.open_and 1 rfl
 obtain ⟨F,G⟩:=G.peel 1 2 rfl rfl
 obtain ⟨F,G⟩:=G.peel 1 3 rfl rfl
 have hle:=hI.le
 have hfit:=hI.fits
 have hr0:=hI.r0
 have hr1:=hI.r1
 obtain ⟨F,G⟩:=G.nM [1,0] [3,2,0]
 refine Ya (rZ G (qI qZ) Z [4,1,0] [3,2,0] fun G=>(Ya (Ya ?_)))
 refine rZ G (qR rr (qf (Zjc (cells:=[.pv _,.pv _,.pv _,.pv _]) 2 (ZpO room l.length _ _ ⟨hr0,hr1⟩ ow) (fun _ _ _ _ _ h=>h) rfl func228 rfl kr (Zaq.one .is)) r1 r1 (qf (o_eql .t qi) r1 qz qZ))) Z [8,4,1,0] [3,2,0] fun G=>?_
 refine Zc G rfl (fun hc0=>?_) (fun hc0=>?_)
 ·simp at hc0;omega
 refine Yf (Za (Ya (Ya (Zz G (qR rr (qf (Zs 2 .is (by rfl)) r1 r1 (qf (oF 3 2 .adr) r1 r1 (qa 2 r1 r1 (qR rr (qf (Zs 2 .is (by rfl)) r1 r1 (qf (oF 1 2 .adr) r1 r1 (qa 2 r1 r1 (qf (Zas 3 YbZ .is) r1 r1 (qf (o_eql .t .t) r2 qz qZ)))))))))) Z [18,4,1,0] [3,2,0] rfl rfl fun a w F G=>?_))))
 try dsimp only [List.map,xD,xE,xT,xU,ldSF,Zo] at G
 refine Za (Zc G rfl (fun hc1=>?_) (fun hc1=>?_))
 ·have hcl:l.length=c.length:=by simp at hc1;omega
  have hp2:=ZoD (n:=c.length) ow hI.pow0
  rw [← hcl] at hp2
  clear hcl
  have hgl:l.length<growN l.length:=by unfold growN;split <;> omega
  refine Ya ?_
  have G:=G.fresh 1 rfl
  obtain ⟨F,G⟩:=G.push 1 3 rfl rfl rfl kr
  obtain ⟨F,G⟩:=G.push 1 2 rfl rfl rfl kr
  have G:=G.turn 1 rfl (r':=RS.hp (rqH (.pointer (some ⟨b,0,none⟩)) room l)) (fun _ _ _ _ h=>⟨_,_,_,hI,h⟩)
  obtain ⟨F,G⟩:=G.nM [18,4,1,0] [1,0]
  refine Zg G (qR rr (qf (ZX 1 (ZpM b room l) func229 rfl kr (Args.one .t)) r1 r1 (qO rr qZ))) Z [5,4,1,0] [1,0] rfl rfl fun a w F G=>?_
  obtain ⟨rv,G⟩:=G.open_ex 1 rfl
  obtain ⟨c,G⟩:=G.open_ex 1 rfl
  obtain ⟨f,G⟩:=G.open_ex 1 rfl
  obtain ⟨hI,G⟩:=G.open_and 1 rfl
  obtain ⟨F,G⟩:=G.peel 1 2 rfl rfl
  obtain ⟨F,G⟩:=G.peel 1 3 rfl rfl
  obtain ⟨F,G⟩:=G.nM [5,4,1,0] [3,2,0]
  refine Za (Ya (Zb G (qR rr (qR rr (qR rr (qf (Zs 2 .is (by rfl)) r1 r1 (qf (oF 3 2 .adr) r1 r1 (qa 2 r1 r1 (qf (ZgG .t qi (by decide)) r1 qz (qf (ZpX qi .t) r1 qz (qf (Zb4 (R:=Zo) (v:=0) (c:=_) (sz:=1) (bs:=8) (zs:=[.int .i64 0]) 101 YbZ kr kr kr (fun _ _=>⟨⟨rfl,rfl,Zdf⟩,tv⟩) .t .t (by rw [Zg4 ow];omega) (by rw [Zg4 ow];unfold growN;split <;> omega) (by rw [Zg4 ow];unfold growN;split <;> omega)) r2 qz (qf (Zs 2 .is (by rfl)) r1 r1 (qf (oF 1 2 .adr) r1 r1 (qf (Zcc 2 .adr kr kr) r2 r1 (qf (Zs 2 .is (by rfl)) r1 r1 (qf (oF 2 2 .adr) r1 r1 (qf (Zbd 2 .adr qi one_int kr kr) r1 r1 qZ))))))))))))))) Z [5,4,1,0] [101,3,2,0] (fun _=>rfl) (fun _=>rfl) fun τ a w F G=>?_))
  try dsimp only [RS.sub,SF.sub,CF.sub,csub,Anc.sub,List.map,Zf,xL,xM,Nat.reduceAdd,xD,xE,xT,xU,xC,xN,zCF,ldSF,Zo] at G
  generalize τ 29=v29 at G
  rw [Zg4 ow,Yc] at G
  refine Za (Zg G (qR rr (qf (Zs 2 .is (by rfl)) r1 r1 (qf (oF 1 2 .adr) r1 r1 (qa 2 r1 r1 (qR rr (qf (ZlM 101 YbZ kr (by intro x;rfl) .t .t (by rw [YW];unfold growN;split <;> omega)) r2 r1 qZ)))))) Z [4,1,0] [101,3,2,0] rfl rfl fun a w F G=>?_)
  obtain ⟨c2,hce⟩:∃ c2,c2=l++(List.replicate (growN l.length) (0:Int)).drop l.length:=⟨_,rfl⟩
  rw [← hce] at G
  have hcl2:c2.length=growN l.length:=by rw [hce,Yd,YJ,YW];omega
  have hc2:l.length<c2.length:=by rw [hcl2];exact hgl
  have ht2:c2.take l.length=l:=by rw [hce,List.take_left]
  rw [← hcl2] at hp2
  have hR:ZfO room c2 0 l:=ZfO.grow hr0 hr1 hfit (Nat.le_of_lt hc2) ht2 hp2
  have hP:=hR.put (x:=x) hrm hc2
  have hmi:(0+l.length) % c2.length<c2.length:=YbC _ ow
  refine Za (Ya (Zz G (qR rr (qf (Zs 2 .is (by rfl)) r1 r1 (qf (oF 1 2 .adr) r1 r1 (qa 2 r1 r1 (qR rr (qR rr (qf (Zs 2 .is (by rfl)) r1 r1 (qf (oF 3 2 .adr) r1 r1 (qa 2 r1 r1 (qf (ZdA (cells:=[.pv _,.pv (.is v29),.pv _,.pv _]) 2 101 1 (ZcE c2 room l.length 0 l.length (l.length:Int) rfl hp2 ow ow) (fun _ _ _ _ _ h=>h) rfl func230 rfl kr rfl rfl (Zaq.two .is .t)) r2 r2 (qR rr (qf (o_indexAddr_row (sz:=1) 101 (.mk YbZ kr) .is .t ow ow (by rfl)) r2 r1 (qf (ZU (R:=Zo) (sz:=1) (v:=x) 101 .t (by intro x;rfl) ow .t rfl one_int kr) r2 r1 qZ))))))))))))) Z [4,0] [101,3,2,0] rfl rfl fun a w F G=>?_))
  try dsimp only [List.map,Zf,xL,xM,Nat.reduceAdd,xD,xE,xT,xU,xC,xN,zCF,ldSF,Zo] at G
  try simp only [Yc] at G
  try rw [Yc] at G
  refine Za (Ya (rZ G (qR rr (qf (Zs 2 .is (by rfl)) r1 r1 (qf (oF 3 2 .adr) r1 r1 (qa 2 r1 r1 (qp r1 (qf (Zs 2 .is (by rfl)) r1 r1 (qf (oF 3 2 .adr) r1 r1 (qf (Zbd 2 .adr .t one_int kr kr) r2 r1 qZ)))))))) Z [4] [101,3,2,0] fun G=>Ya ?_))
  refine rZ G (qI qZ) Z [4] [101,3,2,0] fun G=>Yh ?_
  rw [Zd ow] at G
  have G:=G.fresh 1 rfl
  obtain ⟨F,G⟩:=G.push 1 101 rfl rfl rfl kr
  obtain ⟨F,G⟩:=G.push 1 2 rfl rfl rfl kr
  have G:=G.turn 1 rfl (r':=RS.hp (rqH (.pointer (some ⟨b,0,none⟩)) room (l ++ [x]))) (fun _ _ _ _ h=>⟨_,_,0,hP,(by rw [Yd];exact h)⟩)
  refine Za4 hG G rfl (.tmp rfl .nil) (.one .refl) rfl
 have hc2:l.length<c.length:=by simp at hc1;omega
 obtain ⟨c2,hce⟩:∃ c2,c2=c:=⟨_,rfl⟩
 rw [← hce] at G hc2
 have hR:ZfO room c2 f l:=by rw [hce];exact hI
 obtain ⟨hp2,hf2⟩:=hR.ring ow
 have hP:=hR.put (x:=x) hrm hc2
 have hmi:(f+l.length) % c2.length<c2.length:=YbC _ ow
 refine Yf (Za (Ya (Zz G (qR rr (qf (Zs 2 .is (by rfl)) r1 r1 (qf (oF 1 2 .adr) r1 r1 (qa 2 r1 r1 (qR rr (qR rr (qf (Zs 2 .is (by rfl)) r1 r1 (qf (oF 3 2 .adr) r1 r1 (qa 2 r1 r1 (qf (ZdA (cells:=[.pv _,.pv (.is rv),.pv _,.pv _]) 2 3 1 (ZcE c2 room l.length f l.length (l.length:Int) rfl hp2 ow ow) (fun _ _ _ _ _ h=>h) rfl func230 rfl kr rfl rfl (Zaq.two .is .t)) r2 r2 (qR rr (qf (o_indexAddr_row (sz:=1) 3 (.mk YbZ kr) .is .t ow ow (by rfl)) r2 r1 (qf (ZU (R:=Zo) (sz:=1) (v:=x) 3 .t (by intro x;rfl) ow .t rfl one_int kr) r2 r1 qZ))))))))))))) Z [4,0] [3,2,0] rfl rfl fun a w F G=>?_)))
 try dsimp only [List.map,Zf,xL,xM,Nat.reduceAdd,xD,xE,xT,xU,xC,xN,zCF,ldSF,Zo] at G
 try simp only [Yc] at G
 try rw [Yc] at G
 refine Za (Ya (rZ G (qR rr (qf (Zs 2 .is (by rfl)) r1 r1 (qf (oF 3 2 .adr) r1 r1 (qa 2 r1 r1 (qp r1 (qf (Zs 2 .is (by rfl)) r1 r1 (qf (oF 3 2 .adr) r1 r1 (qf (Zbd 2 .adr .t one_int kr kr) r2 r1 qZ)))))))) Z [4] [3,2,0] fun G=>Ya ?_))
 refine rZ G (qI qZ) Z [4] [3,2,0] fun G=>Yh ?_
 rw [Zd ow] at G
 have G:=G.fresh 1 rfl
 obtain ⟨F,G⟩:=G.push 1 3 rfl rfl rfl kr
 obtain ⟨F,G⟩:=G.push 1 2 rfl rfl rfl kr
 have G:=G.turn 1 rfl (r':=RS.hp (rqH (.pointer (some ⟨b,0,none⟩)) room (l ++ [x]))) (fun _ _ _ _ h=>⟨_,_,f,hP,(by rw [Yd];exact h)⟩)
 refine Za4 hG G rfl (.tmp rfl .nil) (.one .refl) rfl
theorem Zcz.prev {n:Nat} {E:List Zu} {O I:List (List Z4)} (h:Zcz n E O I) (mask u:Int):Zdp (adjO I mask u) ∧ ∀ v,v ∈ adjO I mask u ↔ ∃ x ∈ E,x.dst=u∧ofB mask x.kind=true∧x.src=v:=by
 by_cases hu:0≤u∧u<I.length
 ·unfold adjO
  rw [Ye hu]
  refine ⟨(ZP _).1,fun v=>?_⟩
  rw [(ZP _).2,Yv]
  constructor
  ·rintro ⟨e,h1,h2⟩
   obtain ⟨h3,h4⟩:=YV.1 h1
   obtain ⟨x,x1,x2,rfl⟩:=(h.im u.toNat (by have:=h.il;omega) e).1 h3
   exact ⟨x,x1,by omega,h4,h2⟩
  ·rintro ⟨x,x1,x2,x3,x4⟩
   exact ⟨endI x,YV.2 ⟨(h.im u.toNat (by have:=h.il;omega) _).2 ⟨x,x1,by omega,rfl⟩,x3⟩,x4⟩
 ·unfold adjO
  rw [Yb hu]
  refine ⟨List.Pairwise.nil,fun v=>⟨fun k=>(by cases k),?_⟩⟩
  rintro ⟨x,x1,x2,_⟩
  have:=(ZY.1 (h.ok x x1)).2.1
  have:=h.il
  exact absurd ⟨by omega,by omega⟩ hu
theorem Zcz.prevR {n:Nat} {E:List Zu} {O I:List (List Z4)} (h:Zcz n E O I) (mask:Int):(∀ x,∀ u ∈ adjO I mask x,0≤u∧u<(n:Int)) ∧ ∀ x,(adjO I mask x).length≤n:=by
 have h1:∀ x,∀ u ∈ adjO I mask x,0≤u∧u<(n:Int):=fun x u hu=>by
  obtain ⟨y,y1,_,_,y4⟩:=((h.prev mask x).2 u).1 hu
  have:=(ZY.1 (h.ok y y1)).1
  omega
 exact ⟨h1,fun x=>Zi9 ((h.prev mask x).1.imp fun h=>by omega) (h1 x)⟩
inductive Zex (prev:Int→List Int) (least t:Int):Nat→Int→Prop
 | zero:Zex prev least t 0 t
 | step {k:Nat} {u x:Int} (h:u ∈ prev x) (hl:least≤u) (r:Zex prev least t k x):Zex prev least t (k+1) u
def Zc5 (n:Nat) (prev:Int→List Int) (least t:Int) (d:List Int):Prop:=d.length=n ∧ ∀ u:Nat,u<n→(Nn d u = -1 ∧ ∀ k,¬ Zex prev least t k u) ∨ ∃ k:Nat,Nn d u=k∧Zex prev least t k u ∧ ∀ j,Zex prev least t j u→k≤j
structure Znw (n:Nat) (prev:Int→List Int) (least t:Int) (d q:List Int):Prop where
 len:d.length=n
 start:0≤t∧t<n∧fI d t=0
 neg:∀ u:Int,0≤u→u<n → -1≤fI d u
 qd:∀ x ∈ q,0≤x∧x<n∧0≤fI d x
 nd:q.Nodup
 sound:∀ u:Int,0≤u→u<n→0≤fI d u→Zex prev least t (fI d u).toNat u
 sort:q.Pairwise fun a b=>fI d a≤fI d b
 near:∀ x,q.head? = some x→(∀ y ∈ q,fI d y≤fI d x+1) ∧ ∀ u:Int,0≤u→u<n→u ∉ q→fI d u≤fI d x
 clos:∀ x:Int,0≤x→x<n→0≤fI d x→x ∉ q → ∀ u ∈ prev x,least≤u→0≤fI d u∧fI d u≤fI d x+1
structure Zl1 (n:Nat) (prev:Int→List Int) (least t:Int) (d q:List Int) (x:Int) (done:List Int):Prop where
 len:d.length=n
 start:0≤t∧t<n∧fI d t=0
 neg:∀ u:Int,0≤u→u<n → -1≤fI d u
 qd:∀ x ∈ q,0≤x∧x<n∧0≤fI d x
 nd:q.Nodup
 sound:∀ u:Int,0≤u→u<n→0≤fI d u→Zex prev least t (fI d u).toNat u
 sort:q.Pairwise fun a b=>fI d a≤fI d b
 here:0≤x∧x<n∧0≤fI d x∧x ∉ q
 near:(∀ y ∈ q,fI d x≤fI d y∧fI d y≤fI d x+1) ∧ ∀ u:Int,0≤u→u<n→u ∉ q→fI d u≤fI d x
 clos:∀ z:Int,0≤z→z<n→z≠x→0≤fI d z→z ∉ q → ∀ u ∈ prev z,least≤u→0≤fI d u∧fI d u≤fI d z+1
 seen:∀ u ∈ done,least≤u→0≤fI d u∧fI d u≤fI d x+1
section
variable {n:Nat} {prev:Int→List Int} {least t:Int} {d q:List Int} {x:Int} {seen:List Int}
theorem Znw.first (ht:0≤t∧t<n):Znw n prev least t ((List.replicate n (-1)).set t.toNat 0) [t]:=by
 have e:fI ((List.replicate n (-1)).set t.toNat 0)=ZiR (fI (List.replicate n (-1))) t 0:=ZdB (by simpa using ht)
 have e2:∀ u:Int,0≤u→u<n→fI (List.replicate n (-1)) u = -1:=fun u h1 h2=>by
  rw [Zct h1,nth_eq (by simp;omega)];simp
 have e3:∀ u:Int,0≤u→u<n→u≠t→fI ((List.replicate n (-1)).set t.toNat 0) u = -1:=fun u h1 h2 h3=>by rw [e,ZaQ h3];exact e2 u h1 h2
 have e4:fI ((List.replicate n (-1)).set t.toNat 0) t=0:=by rw [e,Z8]
 refine ⟨by simp,⟨ht.1,ht.2,e4⟩,fun u h1 h2=>?_,fun z hz=>?_,by simp,fun u h1 h2 h3=>?_,by simp,fun z hz=>?_,fun z h1 h2 h3 h4=>?_⟩
 ·by_cases h:u=t
  ·rw [h,e4];omega
  ·rw [e3 u h1 h2 h];omega
 ·rw [Yi.1 hz];exact ⟨ht.1,ht.2,by rw [e4];omega⟩
 ·by_cases h:u=t
  ·rw [h,e4];exact .zero
  ·rw [e3 u h1 h2 h] at h3;omega
 ·have hz:t=z:=by simpa using hz
  subst hz
  refine ⟨fun y hy=>by rw [Yi.1 hy];omega,fun u h1 h2 h3=>?_⟩
  rw [e3 u h1 h2 (by simpa using h3),e4];omega
 ·have h5:z≠t:=by simpa using h4
  rw [e3 z h1 h2 h5] at h3;omega
theorem Znw.pop (h:Znw n prev least t d (x :: q)):Zl1 n prev least t d q x []:=by
 have hx:=h.qd x (by simp)
 obtain ⟨n1,n2⟩:=h.near x rfl
 have hnd:=YaH.1 h.nd
 have hs:=Yq.1 h.sort
 refine ⟨h.len,h.start,h.neg,fun z hz=>h.qd z (by simp [hz]),hnd.2,h.sound,hs.2,⟨hx.1,hx.2.1,hx.2.2,hnd.1⟩,⟨fun y hy=>⟨hs.1 y hy,n1 y (by simp [hy])⟩,fun u h1 h2 h3=>?_⟩,fun z h1 h2 h3 h4 h5=>h.clos z h1 h2 h4 (by simp [h3,h5]),by simp⟩
 by_cases e:u=x
 ·rw [e];exact Yaj _
 ·exact n2 u h1 h2 (by simp [e,h3])
theorem Zl1.skip {u:Int} (h:Zl1 n prev least t d q x seen) (hu:0≤u∧u<n) (hs:least≤u→0≤fI d u):Zl1 n prev least t d q x (seen ++ [u]):=by
 refine ⟨h.len,h.start,h.neg,h.qd,h.nd,h.sound,h.sort,h.here,h.near,h.clos,fun z hz hl=>?_⟩
 rcases YA.1 hz with hz | hz
 ·exact h.seen z hz hl
 ·rw [Yi.1 hz] at hl ⊢
  refine ⟨hs hl,?_⟩
  by_cases hq:u ∈ q
  ·exact (h.near.1 u hq).2
  ·have:=h.near.2 u hu.1 hu.2 hq;omega
theorem Zl1.put {u:Int} (h:Zl1 n prev least t d q x seen) (hu:0≤u∧u<n) (hp:u ∈ prev x) (hl:least≤u) (h0:fI d u<0):Zl1 n prev least t (d.set u.toNat (fI d x+1)) (q ++ [u]) x (seen ++ [u]):=by
 have hx:=h.here
 have e:fI (d.set u.toNat (fI d x+1))=ZiR (fI d) u (fI d x+1):=ZdB (by rw [h.len];exact hu)
 have eu:fI (d.set u.toNat (fI d x+1)) u=fI d x+1:=by rw [e,Z8]
 have ne:∀ {z:Int},z≠u→fI (d.set u.toNat (fI d x+1)) z=fI d z:=fun hz=>by rw [e,ZaQ hz]
 have hxu:x≠u:=fun k=>by rw [k] at hx;omega
 have huq:u ∉ q:=fun k=>by have:=(h.qd u k).2.2;omega
 have hqu:∀ z ∈ q,z≠u:=fun z hz k=>huq (k ▸ hz)
 have htu:t≠u:=fun k=>by have:=h.start.2.2;rw [k] at this;omega
 have hd0:∀ z:Int,z≠u→fI (d.set u.toNat (fI d x+1)) z=fI d z:=fun z hz=>ne hz
 refine ⟨by simp [h.len],⟨h.start.1,h.start.2.1,by rw [ne htu];exact h.start.2.2⟩,fun z h1 h2=>?_,fun z hz=>?_,?_,fun z h1 h2 h3=>?_,?_,⟨hx.1,hx.2.1,by rw [ne hxu];exact hx.2.2.1,?_⟩,⟨fun y hy=>?_,fun z h1 h2 h3=>?_⟩,fun z h1 h2 h3 h4 h5 y hy hly=>?_,fun z hz hlz=>?_⟩
 ·by_cases k:z=u
  ·rw [k,eu];omega
  ·rw [ne k];exact h.neg z h1 h2
 ·rcases YA.1 hz with hz | hz
  ·rw [ne (hqu z hz)];exact h.qd z hz
  ·rw [Yi.1 hz,eu];exact ⟨hu.1,hu.2,by omega⟩
 ·exact List.nodup_append.2 ⟨h.nd,by simp,fun a ha b hb k=>huq (by rw [Yi.1 hb] at k;exact k ▸ ha)⟩
 ·by_cases k:z=u
  ·rw [k,eu]
   rw [show (fI d x+1).toNat=(fI d x).toNat+1 by omega]
   exact .step hp hl (h.sound x hx.1 hx.2.1 hx.2.2.1)
  ·rw [ne k] at h3 ⊢;exact h.sound z h1 h2 h3
 ·refine Ybg.2 ⟨List.Pairwise.imp_of_mem (fun {a b} ha hb k=>?_) h.sort,by simp,fun a ha b hb=>?_⟩
  ·rw [ne (hqu a ha),ne (hqu b hb)];exact k
  ·rw [Yi.1 hb,eu,ne (hqu a ha)];exact (h.near.1 a ha).2
 ·simp [hx.2.2.2,hxu]
 ·rcases YA.1 hy with hy | hy
  ·rw [ne (hqu y hy),ne hxu];exact h.near.1 y hy
  ·rw [Yi.1 hy,eu,ne hxu];omega
 ·have h3':z ∉ q∧z≠u:=by simpa using h3
  rw [ne h3'.2,ne hxu];exact h.near.2 z h1 h2 h3'.1
 ·have h5':z ∉ q∧z≠u:=by simpa using h5
  rw [ne h5'.2] at h4 ⊢
  have h6:=h.clos z h1 h2 h3 h4 h5'.1 y hy hly
  by_cases k:y=u
  ·rw [k] at h6;omega
  ·rw [ne k];exact h6
 ·rw [ne hxu]
  by_cases k:z=u
  ·rw [k,eu];omega
  ·rw [ne k]
   rcases YA.1 hz with hz | hz
   ·exact h.seen z hz hlz
   ·exact absurd (Yi.1 hz) k
theorem Zl1.done (h:Zl1 n prev least t d q x (prev x)):Znw n prev least t d q:=by
 refine ⟨h.len,h.start,h.neg,h.qd,h.nd,h.sound,h.sort,fun z hz=>?_,fun z h1 h2 h3 h4=>?_⟩
 ·have hm:z ∈ q:=List.mem_of_head? hz
  refine ⟨fun y hy=>?_,fun u h1 h2 h3=>?_⟩
  ·have a:=(h.near.1 z hm).1
   have b:=(h.near.1 y hy).2
   omega
  ·have a:=(h.near.1 z hm).1
   have b:=h.near.2 u h1 h2 h3
   omega
 ·by_cases e:z=x
  ·rw [e];exact h.seen
  ·exact h.clos z h1 h2 e h3 h4
theorem Znw.dist (hp:∀ x,∀ u ∈ prev x,0≤u∧u<n) (h:Znw n prev least t d []):Zc5 n prev least t d:=by
 have key:∀ (j:Nat) (u:Int),Zex prev least t j u→0≤u∧u<n∧0≤fI d u∧fI d u≤j:=fun j u hw=>by
  induction hw with
  | zero=>exact ⟨h.start.1,h.start.2.1,by rw [h.start.2.2];omega,by rw [h.start.2.2];omega⟩
  | step h1 hl _ ih=>
   obtain ⟨i1,i2,i3,i4⟩:=ih
   obtain ⟨k1,k2⟩:=h.clos _ i1 i2 i3 (by simp) _ h1 hl
   have:=hp _ _ h1
   exact ⟨this.1,this.2,k1,by omega⟩
 refine ⟨h.len,fun u hu=>?_⟩
 have e:Nn d u=fI d (u:Int):=by rw [Zct ow];rfl
 rw [e]
 have hneg:=h.neg u ow ow
 by_cases h0:0≤fI d (u:Int)
 ·exact .inr ⟨(fI d (u:Int)).toNat,by omega,h.sound u ow ow h0,fun j hj=>by have:=(key j u hj).2.2.2;omega⟩
 ·exact .inl ⟨by omega,fun k hk=>h0 (key k u hk).2.2.1⟩
theorem Zc5.one {d e:List Int} (h:Zc5 n prev least t d) (k:Zc5 n prev least t e):d=e:=by
 refine ZaK (by rw [h.1,k.1]) fun j hj=>?_
 rw [h.1] at hj
 rcases h.2 j hj with ⟨a1,a2⟩ | ⟨i,a1,a2,a3⟩ <;> rcases k.2 j hj with ⟨b1,b2⟩ | ⟨i',b1,b2,b3⟩
 ·rw [a1,b1]
 ·exact absurd b2 (a2 _)
 ·exact absurd a2 (b2 _)
 ·have:=a3 _ b2;have:=b3 _ a2;omega
theorem Zl1.room (h:Zl1 n prev least t d q x seen):q.length+1≤n:=Zi9 (l:=x :: q) (YaH.2 ⟨h.here.2.2.2,h.nd⟩) fun y hy=>by
 rcases Yk.1 hy with rfl | hy
 ·exact ⟨h.here.1,h.here.2.1⟩
 ·exact ⟨(h.qd y hy).1,(h.qd y hy).2.1⟩
end
def negC (d:List Int):Nat:=d.countP fun z=>decide (z<0)
theorem Zko {d:List Int} {i:Nat} {c:Int} (hi:i<d.length) (h0:Nn d i<0) (hc:0≤c):negC (d.set i c)+1=negC d:=by
 rw [nth_eq hi] at h0
 unfold negC
 rw [List.countP_set hi,Yaf h0,YI (show ¬ c<0 by omega)]
 have:0<d.countP fun z=>decide (z<0):=List.countP_pos_iff.2 ⟨d[i],YaS hi,Yaf h0⟩
 simp
 omega
theorem ZnQ (n:Nat) (prev:Int→List Int) (least t:Int):∃ d,Zc5 n prev least t d:=by
 refine Znn (P:=fun u m=>(m = -1 ∧ ∀ k,¬ Zex prev least t k u) ∨ ∃ k:Nat,m=k∧Zex prev least t k u ∧ ∀ j,Zex prev least t j u→k≤j) n fun u _=>?_
 by_cases h:∃ k,Zex prev least t k (u:Int)
 ·obtain ⟨k,hk⟩:=h
  obtain ⟨m,⟨h1,h2⟩,h3⟩:=ZqB (P:=fun m=>0≤m∧Zex prev least t m.toNat u) (fun x hx=>hx.1) (u:=k) ⟨by omega,by simpa using hk⟩
  exact ⟨m,.inr ⟨m.toNat,by omega,h2,fun j hj=>by have:=h3 j ⟨by omega,by simpa using hj⟩;omega⟩⟩
 ·exact ⟨-1,.inl ⟨rfl,fun k hk=>h ⟨k,hk⟩⟩⟩
def Zds (n:Nat) (prev:Int→List Int) (least t:Int) (d q:List Int):Prop:=Znw n prev least t d q ∧ ∀ z:Int,fI d z+(negC d:Int)≤n
def ZcA (n:Nat) (prev:Int→List Int) (least t:Int) (d q:List Int) (x:Int) (seen:List Int):Prop:=Zl1 n prev least t d q x seen ∧ ∀ z:Int,fI d z+(negC d:Int)≤n
section
variable {n:Nat} {prev:Int→List Int} {least t:Int} {d q:List Int} {x:Int} {seen:List Int}
theorem Zds.first (ht:0≤t∧t<n):Zds n prev least t ((List.replicate n (-1)).set t.toNat 0) [t]:=by
 have hlt:t.toNat<n:=by omega
 have h1:=Zko (d:=List.replicate n (-1)) (i:=t.toNat) (c:=0) (by simpa using hlt) (by rw [nth_eq (by simpa using hlt)];simp) (Yaj 0)
 have h2:negC (List.replicate n (-1))=n:=by unfold negC;rw [List.countP_replicate];simp
 refine ⟨Znw.first ht,fun z=>?_⟩
 have hz:fI ((List.replicate n (-1)).set t.toNat 0) z≤0:=by
  rw [ZdB (by simpa using ht)]
  unfold ZiR
  split
  ·exact Yaj 0
  ·unfold fI
   split
   ·by_cases h:z.toNat<n
    ·rw [nth_eq (by simpa using h)];simp
    ·unfold Nn;simp [Yat,show n≤z.toNat by omega]
   ·exact Yaj 0
 omega
theorem Zds.pop (h:Zds n prev least t d (x :: q)):ZcA n prev least t d q x []:=⟨h.1.pop,h.2⟩
theorem ZcA.skip {u:Int} (h:ZcA n prev least t d q x seen) (hu:0≤u∧u<n) (hs:least≤u→0≤fI d u):ZcA n prev least t d q x (seen ++ [u]):=⟨h.1.skip hu hs,h.2⟩
theorem ZcA.put {u:Int} (h:ZcA n prev least t d q x seen) (hu:0≤u∧u<n) (hp:u ∈ prev x) (hl:least≤u) (h0:fI d u<0):ZcA n prev least t (d.set u.toNat (fI d x+1)) (q ++ [u]) x (seen ++ [u])∧negC (d.set u.toNat (fI d x+1))+1=negC d:=by
 have hn:=Zko (d:=d) (i:=u.toNat) (c:=fI d x+1) (by rw [h.1.len];omega) (by rw [← Zct hu.1];exact h0) (by have:=h.1.here.2.2.1;omega)
 refine ⟨⟨h.1.put hu hp hl h0,fun z=>?_⟩,hn⟩
 rw [ZdB (by rw [h.1.len];exact hu)]
 unfold ZiR
 have h1:=h.2 x
 have h2:=h.2 z
 split <;> omega
theorem ZcA.done (h:ZcA n prev least t d q x (prev x)):Zds n prev least t d q:=⟨h.1.done,h.2⟩
theorem ZcA.val (h:ZcA n prev least t d q x seen):0≤fI d x∧fI d x≤n:=by
 have:=h.2 x
 exact ⟨h.1.here.2.2.1,by omega⟩
end
theorem Zg1 (O I:List (List Z4)) (m:Nat) (u mask:Int) (hI:∀ l ∈ I,l.length≤1000000) (hOI:I.length=O.length):FnP prog 209 [Zhq O I m,.int .i64 u,.int .i64 mask] (.sl Zo (adjO I mask u)):=by
 refine FnP.mk func209 rfl ntmps209 rfl fun B a w F Z hfr G=>Ya ?_
 refine rZ G (qC qZ) Z [6,2,1,0] [0] fun G=>(Ya (Ya ?_))
 refine rZ G (qR rr (qR rr (qf (oP (Zev O I m u) func194 (Args.two .t .t)) r2 qz (qf (o_not .t) r1 qz qZ)))) Z [10,6,2,1,0] [0] fun G=>?_
 refine Zc G rfl (fun hc0=>?_) (fun hc0=>?_)
 ·have hg:[] = adjO I mask u:=by unfold adjO;rw [Yb (by have h9:=hc0;simp at h9;omega)]
  refine Ya (rZ G (qC qZ) Z [6,2,1,0] [0] fun G=>(Yh (Zm ?_)))
  refine Zw hfr G rfl rfl rfl (.trans .nilSl (.sl hg))
 have hth:0≤u∧u<I.length:=by have h9:=hc0;simp at h9;omega
 have hg:(Zbu (((Nn I u.toNat).filter fun e=>ofB mask e.kind).map Z4.node))=adjO I mask u:=by unfold adjO;rw [Ye hth]
 refine Yf (Za (Ya (Zg G (qR rr (qf (ZR .t) r1 qz (qf (oG 1 .t) r1 qz (qf (oR false 1 .t) r1 qz (qR rr (qf (ZI (sz:=1) (.mk Yb9 kr) (by intro x;rfl) .t .t (by exact hth.1) (by exact hth.2)) r2 qz (qf (oR false 1 .t) r1 qz (qR rr (qf (oP (dgNodesOf_c (Nn I u.toNat) mask (hI _ (nth_mem ow))) func198 (Args.two .t .t)) r2 qz (qO rr qZ)))))))))) Z [6] [0] rfl rfl fun a w F G=>?_)))
 try simp only [Yc] at G
 refine Za (Yh (Zw hfr G rfl rfl rfl (.sl hg)))
theorem ZtV (E:List Zu) (O I:List (List Z4)) (m:Nat) (mask node least:Int) (h:Zcz O.length E O I) (hn1:1≤O.length) (hn:O.length≤4096) (hE:E.length≤1000000) (hs0:least≤node) (hs1:0≤node) (hs2:node<O.length) (D:List Int) (hD:Zc5 O.length (fun x=>adjO I mask x) least node D):FnP prog 169 [Zhq O I m,.int .i64 mask,.int .i64 node,.int .i64 least] (.sl Zo D):=by
 refine FnP.mk func169 rfl ntmps169 rfl fun B a w F Z hfr G=>?_
 obtain ⟨hpr,hpl⟩:=h.prevR mask
 refine Ya (rZ G (qC qZ) Z [8,3,2,1,0] [0] fun G=>Ya ?_)
 refine Zb G (qR rr (qR rr (qR rr (qf (oB [(0,.tmp 16),(1,.tmp 17),(2,.tmp 18)] [.pointer none,.int .i64 0,.int .i64 0] [(0,1),(1,1),(2,1)] (.one rfl .t ZiZ kr (.one rfl .t one_int kr (.one rfl .t one_int kr .nil)))) r3 qz (qf (oH [.pointer none,.int .i64 0,.int .i64 0] 101) trivial qz (qS 3 101 r2 r1 qZ)))))) Z [9,8,3,2,1,0] [101,0] (fun _=>rfl) (fun _=>rfl) fun τ a w F G=>?_
 try dsimp only [RS.sub,SF.sub,CF.sub,csub,Anc.sub,List.map,Zf,xL,xM,Nat.reduceAdd,xD,xE,xT,xU,xC,xN,zCF,Zo] at G
 generalize τ 9=v9 at G
 refine Za (Ya ?_)
 replace G:=G.fresh 102 rfl
 refine Zb G (qe 3 101 r1 r1 (qf (ZaE 102 (Znu O I m mask least ow ow) func204 rfl kr (Args.one (.pagg .t)) pvOne1) r1 r1 (qO rr qZ))) Z [10,9,8,3,2,1,0] [102,101,0] (fun _=>rfl) (fun _=>rfl) fun τ a w F G=>?_
 try dsimp only [RS.sub,SF.sub,CF.sub,csub,Anc.sub,List.map,xD,xE,xT,xU,ldSF,Zo] at G
 generalize τ 21=v21 at G
 refine Za (Ya (Ya (rZ G (qe 3 101 r1 r1 (qR rr (qf (oP (Zm9 O I m mask least node) func205 (Args.two (.pagg .t) .t)) r2 qz (qf (o_not .t) r1 qz qZ)))) Z [25,10,8,3,2,1,0] [102,101,0] fun G=>?_)))
 refine Zc G rfl (fun hc0=>?_) (fun hc0=>?_)
 ·simp at hc0;omega
 refine Yf (Za (Ya ?_))
 replace G:=G.fresh 103 rfl
 refine Zb G (qR rr (qf (oP (ZcD O I m) func158 (Args.one .t)) r1 qz (qf (ZaE 103 (ZmG _) func206 rfl kr (Args.one .t) PV.ptr_one) r1 r1 (qO rr qZ)))) Z [11,10,8,3,2,1,0] [103,102,101,0] (fun _=>rfl) (fun _=>rfl) fun τ a w F G=>?_
 try dsimp only [RS.sub,SF.sub,CF.sub,csub,Anc.sub,List.map,Zo] at G
 generalize τ 29=v29 at G
 obtain ⟨_,_,_,ho⟩:=G.obGet 103 rfl
 obtain ⟨qb,rfl⟩:=ZmP ho
 clear ho
 replace G:=G.turn 103 rfl (r':=RS.hp (rqH (.pointer (some ⟨qb,0,none⟩)) (ZcB (O.length:Int)) [])) (fun _ _ _ _ h=>h)
 obtain ⟨F,G⟩:=G.nM [11,10,8,3,2,1,0] [103,102,101,0]
 rw [ZiQ ow] at G
 refine Za (Ya (Zg G (qR rr (qR rr (qf (o_indexAddr_row (sz:=1) 102 (.mk YbZ kr) .is .t ow (by rw [YW];omega) (by rfl)) r2 r1 (qf (ZU (R:=Zo) (sz:=1) (v:=0) 102 .t (by intro x;rfl) (by rw [YW];omega) qi rfl one_int kr) r1 r1 qZ)))) Z [11,10,8,3,2,1,0] [103,102,101,0] rfl rfl fun a w F G=>?_))
 try simp only [Yc] at G
 refine Za (Ya (rZ G (qR rr (qR rr (qf (ZX 103 (Zcl qb (O.length:Int) [] node (by simp;omega)) func207 rfl kr (Args.two .t .t)) r2 r1 qZ))) Z [11,10,8,3,1,0] [103,102,101,0] fun G=>(Ya (Ya ?_))))
 refine rZ G (qR rr (qf (ZX 103 (Zha qb (O.length:Int) [node]) func208 rfl kr (Args.one .t)) r1 r1 (qR rr (qf (Zh .t rfl) r1 qz (qf (Zh .t rfl) r1 qz (qO rr (qO rr qZ))))))) Z [13,12,11,10,8,3,1,0] [103,102,101,0] fun G=>Yg ?_
 refine Zl (σ:=List Int×List Int) [0,1,3,8,10,11] [0,101] (fun s=>[(12,.pv (.int .i64 (s.2.headD 0))),(13,.pv (.bool (decide (s.2≠[]))))]) (fun s=>[(102,.ob (.val v21) (ZA 3 1 Zo s.1)),(103,RS.hp (rqH (.pointer (some ⟨qb,0,none⟩)) (O.length:Int) s.2.tail))]) (fun s=>Zds O.length (fun x=>adjO I mask x) least node s.1 s.2) (fun s=>2*negC s.1+s.2.length) (_,([node])) G ⟨rfl,rfl,rfl,rfl,rfl,rfl,rfl,rfl,tv⟩ ⟨rfl,rfl,rfl,rfl,tv⟩ (Zds.first ⟨hs1,by omega⟩) ?_
 clear G;intro s a w F hC G
 obtain ⟨d,q⟩:=s
 try dsimp only at hC
 obtain ⟨F,G⟩:=G.nM [13,12,11,10,8,3,1,0] [103,102,101,0]
 try dsimp only at G
 have hBI:Zds O.length (fun x=>adjO I mask x) least node d q:=hC
 refine Ya (Ya (rZ G (qR rr qZ) Z [41,13,12,11,10,8,3,1,0] [103,102,101,0] fun G=>?_))
 refine Zc G rfl (fun hc1=>?_) (fun hc1=>?_)
 ·obtain ⟨x,q,rfl⟩:∃ x l,q=x :: l:=List.exists_cons_of_ne_nil (by simpa using hc1)
  try dsimp only [List.headD_cons,List.tail_cons] at G
  have hM0:=hBI.pop
  have hpx:=hpl x
  refine Yf (Za (Ya (Yg (Ya (rZ G (qR rr (qR rr (qR rr (qf (oP (Zg1 O I m x mask (fun l hl=>(h.inn.r hE l hl).1) (by rw [h.ol,h.il])) func209 (Args.three .t .t .t)) r3 qz (qu YbZ r1 (qJ qZ)))))) Z [52,51,50,13,12,11,10,8,3,1,0] [103,102,101,0] fun G=>Yg ?_)))))
  refine Zl (σ:=(Nat)×(List Int)×(List Int)) [0,1,3,8,10,11,12,13,50,51] [0,101] (fun s=>[(52,.pv (.int .i64 (s.1:Int)))]) (fun s=>[(102,.ob (.val v21) (ZA 3 1 Zo s.2.1)),(103,RS.hp (rqH (.pointer (some ⟨qb,0,none⟩)) (O.length:Int) s.2.2))]) (fun s=>s.1≤(adjO I mask x).length∧(ZcA O.length (fun x=>adjO I mask x) least node s.2.1 s.2.2 x ((adjO I mask x).take s.1)∧2*negC s.2.1+s.2.2.length≤2*negC d+q.length)) (fun s=>(adjO I mask x).length - s.1) ((0),(d),(q)) G ⟨rfl,rfl,rfl,rfl,rfl,rfl,rfl,rfl,rfl,rfl,rfl,tv⟩ ⟨rfl,rfl,rfl,rfl,tv⟩ ⟨Yw _,⟨hM0,YL _⟩⟩ ?_
  clear G;intro s a w F hC G
  obtain ⟨i,d2,q2⟩:=s
  try dsimp only at hC
  obtain ⟨F,G⟩:=G.nM [52,51,50,13,12,11,10,8,3,1,0] [103,102,101,0]
  try dsimp only at G
  obtain ⟨hi,hq⟩:=hC
  obtain ⟨hM,hmu⟩:=hq
  have hdl:=hM.1.len
  have hxr:=hM.1.here
  have hxv:=hM.val
  have hqr:=hM.1.room
  refine Ya (rZ G (qL r2) Z [53,52,51,50,13,12,11,10,8,3,1,0] [103,102,101,0] fun G=>Ya ?_)
  refine Zc G rfl (fun hc2=>?_) (fun hc2=>?_)
  ·have hil:i<(adjO I mask x).length:=by simp at hc2;omega
   have hur:=hpr x _ (nth_mem hil)
   refine Yf (Za (Ya (Yg (Ya (Zg G (qy 1 YbZ r2 (qf (oR false 1 .t) r1 qz (qO rr qZ))) Z [52,51,50,15,13,12,11,10,8,3,1,0] [103,102,101,0] rfl rfl fun a w F G=>?_)))))
   try simp only [Yc] at G
   refine Za (Ya (Zg G (qR rr (qR rr (qf (ZbM .t .t) r2 qz (qR rr (qm rfl rfl rfl rfl (qm rfl rfl rfl rfl (qk rfl (fun h=>o_indexAddr_row (sz:=1) 102 (.mk YbZ kr) (.w h .is) (.w h) ow ow (by rfl)) r3 r1 (qk rfl (fun h=>ZD (ag:=false) (sz':=1) (sz:=1) 102 (.w h) (by intro x;rfl) ow kr kr kr) r2 r1 (qk rfl (fun h=>ZaD (.w h) qi) r2 qz (qf (ZH .t .t) r2 qz qZ)))))))))) Z [65,52,51,50,15,13,12,11,10,8,3,1,0] [103,102,101,0] rfl rfl fun a w F G=>?_))
   try simp only [Yc] at G
   refine Za (Zc G rfl (fun hc3=>?_) (fun hc3=>?_))
   ·have hput:least≤(Nn (adjO I mask x) i)∧fI d2 (Nn (adjO I mask x) i)<0:=by rw [Zct hur.1];simpa using hc3
    obtain ⟨hP1,hP2⟩:=hM.put hur (nth_mem hil) hput.1 hput.2
    have hval:IntKind.wrap .i64 (Nn d2 x.toNat+1)=fI d2 x+1:=by rw [Zct hxr.1];rw [Zct hxr.1] at hxv;exact ZC ow
    refine Ya (Zg G (qR rr (qR rr (qR rr (qR rr (qf (o_indexAddr_row (sz:=1) 102 (.mk YbZ kr) .is .t ow ow (by rfl)) r2 r1 (qf (ZD (ag:=false) (sz':=1) (sz:=1) 102 .t (by intro x;rfl) ow kr kr kr) r1 r1 (qp r1 (qf (o_indexAddr_row (sz:=1) 102 (.mk YbZ kr) .is .t ow ow (by rfl)) r2 r1 (qf (ZU (R:=Zo) (sz:=1) (v:=_) 102 .t (by intro x;rfl) ow .t rfl one_int kr) r2 r1 qZ))))))))) Z [52,51,50,15,13,12,11,10,8,3,1,0] [103,102,101,0] rfl rfl fun a w F G=>?_)
    try simp only [Yc] at G
    rw [hval] at G
    refine Za (Zg G (qR rr (qR rr (qf (ZX 103 (Zcl qb (O.length:Int) q2 (Nn (adjO I mask x) i) ow) func207 rfl kr (Args.two .t .t)) r2 r1 qZ))) Z [52,51,50,13,12,11,10,8,3,1,0] [103,102,101,0] rfl rfl fun a w F G=>Zk (Za ?_))
    refine rZ G (qp r1 (qR rr qZ)) Z [52,51,50,13,12,11,10,8,3,1,0] [103,102,101,0] fun G=>?_
    have hmu3:2*negC (d2.set (Nn (adjO I mask x) i).toNat (fI d2 x+1))+(q2 ++ [(Nn (adjO I mask x) i)]).length≤2*negC d+q.length:=by rw [Yd,Yar];omega
    replace G:=G.ent (i:=52) (s':=.pv (.int .i64 ((i+1:Nat):Int))) rfl (.int (Zd ow))
    obtain ⟨F,G⟩:=G.nM [51,50,13,12,11,10,8,3,1,0,52] [101,0,103,102]
    exact ⟨((i+1),_,(q2 ++ [(Nn (adjO I mask x) i)])),F,⟨by omega,⟨by rw [Zt hil];exact hP1,hmu3⟩⟩,G,by omega⟩
   have hsk:least≤(Nn (adjO I mask x) i)→0≤fI d2 (Nn (adjO I mask x) i):=fun h9=>by rw [Zct hur.1];have h8:=hc3;simp at h8;exact h8 h9
   refine Yf (Zk (Za (rZ G (qp r1 (qR rr qZ)) Z [52,51,50,13,12,11,10,8,3,1,0] [103,102,101,0] fun G=>?_)))
   replace G:=G.ent (i:=52) (s':=.pv (.int .i64 ((i+1:Nat):Int))) rfl (.int (Zd ow))
   obtain ⟨F,G⟩:=G.nM [51,50,13,12,11,10,8,3,1,0,52] [101,0,103,102]
   exact ⟨((i+1),_,_),F,⟨by omega,⟨by rw [Zt hil];exact hM.skip hur hsk,hmu⟩⟩,G,by omega⟩
  have hil:i=(adjO I mask x).length:=by simp at hc2;omega
  have hBI2:Zds O.length (fun x=>adjO I mask x) least node d2 q2:=by rw [hil,YC] at hM;exact hM.done
  have hmu2:2*negC d2+q2.length<2*negC d+(x :: q).length:=by rw [Yl];omega
  refine Yx (Zj (Zj (Zr (Zk (Za (rZ G (qR rr (qf (ZX 103 (Zha qb (O.length:Int) q2) func208 rfl kr (Args.one .t)) r1 r1 (qR rr (qf (Zh .t rfl) r1 qz (qf (Zh .t rfl) r1 qz (qO rr (qO rr qZ))))))) Z [13,12,11,10,8,3,1,0] [103,102,101,0] fun G=>?_))))))
  obtain ⟨F,G⟩:=G.nM [11,10,8,3,1,0,13,12] [101,0,103,102]
  exact ⟨((d2),(q2)),F,hBI2,G,hmu2⟩
 have hqe:q = []:=by simpa using hc1
 subst hqe
 have hfin:d=D:=(Znw.dist hpr hBI.1).one hD
 refine Yx (Zj (Zj (Zr (Za (Ya (rZ G (qR rr (qO rr qZ)) Z [8] [103,102,101,0] fun G=>Yh ?_))))))
 obtain ⟨F,G⟩:=G.give 102 8 rfl rfl
 refine Zw hfr G rfl rfl rfl (.sl hfin)
end Go.Proofs.YtlkpllemoepamaaGreat
