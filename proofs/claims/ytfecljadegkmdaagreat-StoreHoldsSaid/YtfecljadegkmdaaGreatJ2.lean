/- Laws and walks. No condition beyond what each says. -/
import Derived.Test.YtfecljadegkmdaaGreatJ1
import Derived.Shelf.Sort.Plain
import Derived.Shelf.Slices.In.SortNone
namespace Go.Proofs.YtfecljadegkmdaaGreat
open Go Go.Gm Tryz
set_option linter.unusedVariables false
set_option linter.unusedSimpArgs false
set_option maxHeartbeats 4000000
set_option maxRecDepth 8000
theorem Zcx {P:Program} {d:Option Nat} {ty:TypeId} {pos:String} {af:Array Edge} {g:Option (Nat×Bool)} {x:Operand} {ps:List (Nat×SF)} {a:Anc} {α:Type} {R:α→List PV} {l:List α} {T sz i:Nat} {s:TypeId} {f off:Nat} (n:Nat) (hx:Opd x ps (.adr a (i*sz))) (hi:i<l.length) (ho:P.fieldOff s f=some off) (hd:Zbr d (.adr a (i*sz+off))=true) :
  OpC P ⟨d,.fieldAddr s x f,ty,pos,af,g⟩ ⟨ps,[(n,.ob a (ZJ T sz R l))],.adr a (i*sz+off),[]⟩:=
 OpC.read fun act w F hp hr=>by
  obtain ⟨xs,h2,h3,h4⟩:=hr (n,.ob a (ZJ T sz R l)) (by simp)
  obtain ⟨ad,cap,e1,h5,h6,h7⟩:=Zao h2
  rcases h7 with h7 | ⟨b,rfl,_,_⟩
  ·omega
  ·have ev:a.v (Act.tau act) = .slice (some ⟨b,0,none⟩) l.length cap:=e1
   have e2:act.eval x = .pointer (some ⟨b,i*sz,none⟩):=by
    have:=hx act w (U F) hp
    simp only [SF.holds,ev,shift,Y9] at this
    exact this
   refine ⟨.pointer (some ⟨b,i*sz+off,none⟩),by simp [execOp,e2,ZbH ho],fun τ' ht=>ZaE (w:=w) (y:=U F) hd ht ?_⟩
   simp [SF.holds,ev,shift]
def stL (kf:Int→Int):List (Cell×Z5)→List Zz
 | []=>[]
 | e :: st=>stL kf st++ZD kf e.1 :: tList e.2
def stM:List (Cell×Z5)→Int
 | []=>0
 | e :: st=>stM st+(2*Zw e.2+1)
theorem stL_snoc {kf:Int→Int} (e:Cell×Z5):∀ st:List (Cell×Z5),stL kf (st ++ [e])=ZD kf e.1 :: (tList e.2++stL kf st)
 | []=>by simp [stL]
 | x :: st=>by rw [YO,stL,stL_snoc e st,stL];simp
theorem ZgL (e:Cell×Z5):∀ st:List (Cell×Z5),stM (st ++ [e])=stM st+(2*Zw e.2+1)
 | []=>by simp [stM]
 | x :: st=>by rw [YO,stM,ZgL e st,stM];omega
theorem ZmN:∀ st:List (Cell×Z5),0≤stM st
 | []=>Yak _
 | x :: st=>by have:=ZmN st;have:=ZI x.2;rw [stM];omega
theorem ZmD {kf:Int→Int} : ∀ st:List (Cell×Z5),st.length≤(stL kf st).length
 | []=>by simp [stL]
 | x :: st=>by have:=ZmD (kf:=kf) st;rw [stL];simp;omega
theorem ZlM {α:Type} {l:List α} (h:0<l.length):∃ l' e,l=l' ++ [e]:=by
 have:l≠[]:=fun h'=>by rw [h'] at h;simp at h
 exact ⟨l.dropLast,l.getLast this,(List.dropLast_concat_getLast this).symm⟩
theorem ZgZ {α:Type} [Inhabited α] (l:List α) (e:α):Nn (l ++ [e]) l.length=e:=by rw [ZE (by simp)];simp
theorem ZlE (o:Option Nat) (room:Int) (q:List Cell) (root:Int) (t0:Z5) (hr0:Rep id q t0 root) (hs:Zw t0≤1000000):FnG prog 56 1 [.agg [.is (arV o),.int .i64 root]] [arH o room q] (.sl Zx (tList t0)) (fun _=>[arH o room q]):=by
 refine FnG.mk func56 Z ntmps56 Z kr fun B F0 a w F V hG O=>Ya ?_
 refine Zb O (qx 101 r1 (qC qZ)) V [2,1] [101,1,0] (fun _=>rfl) (fun _=>rfl) fun τ a w F O=>?_
 try dsimp only [RS.sub,SF.sub,CF.sub,csub,Anc.sub,List.map,zCF,ZW,Zx] at O
 generalize τ 1=v1 at O
 refine Za (Ya (rZ O (qC qZ) V [3,2,1] [101,1,0] fun O=>Ya ?_))
 refine rZ O (qC qZ) V [4,3,2,1] [101,1,0] fun O=>(Ya (Ya ?_))
 refine rZ O (qg 1 101 r1 r1 (qa 101 r1 r1 (qO rr qZ))) V [5,4,3,2,1] [101,1,0] fun O=>Ye ?_
 replace O:=O.fresh 50 rfl
 replace O:=O.turn 50 Z (ZaI (T:=112) (sz:=2) (R:=Zx))
 replace O:=O.fresh 51 rfl
 replace O:=O.turn 51 Z (ZaI (T:=174) (sz:=6) (R:=ZW))
 refine Zo (σ:=Int×Z5×List (Cell×Z5)×Value×List Zz×Value×List Cell) [1,2] [0,1,101] (fun s=>[(5,.pv (.int .i64 s.1)),(3,.pv (.is s.2.2.2.1)),(4,.pv (.is s.2.2.2.2.2.1))]) (fun s=>[(50,.ob (.val s.2.2.2.1) (ZJ 112 2 Zx s.2.2.2.2.1)),(51,.ob (.val s.2.2.2.2.2.1) (ZJ 174 6 ZW s.2.2.2.2.2.2))]) (fun s=>Rep id q s.2.1 s.1∧(∀ e ∈ s.2.2.1,Rep id q e.2 e.1.right)∧s.2.2.2.2.2.2=s.2.2.1.map Prod.fst∧s.2.2.2.2.1++(tList s.2.1++stL id s.2.2.1)=tList t0) (fun s=>(2*Zw s.2.1+stM s.2.2.1).toNat) ((root),(t0),([]),(.slice none 0 0),([]),(.slice none 0 0),([])) O ⟨rfl,rfl,rfl,rfl,rfl,tv⟩ ⟨rfl,rfl,rfl,rfl,rfl,tv⟩ ⟨hr0,fun e he=>by simp at he,rfl,by simp [stL]⟩ ?_
 clear O;intro s a w F hC O
 obtain ⟨i,t,st,v,out,wv,wt⟩:=s
 try dsimp only at hC
 obtain ⟨F,O⟩:=O.nM [5,4,3,2,1] [101,51,50,1,0]
 try dsimp only at O
 obtain ⟨hr,hst,hwt,hk⟩:=hC
 have hkl:=Yaf List.length hk
 simp only [Yb] at hkl
 have hsl:=ZmD (kf:=id) st
 have hwl:=Yaf List.length hwt
 rw [YF] at hwl
 have hnn:=ZmN st
 have hsz:=ZM t0
 refine Ya (Ya (rZ O (qR rr (qf (Zas .t qi) r1 qz (qR rr (qm Z Z Z Z (qk Z (fun h=>Zae 51 YbE (.w h .is)) r2 r1 (qk Z (fun h=>Zas (.w h) qi) r2 qz (qf (ZaQ .t .t) r2 qz qZ))))))) V [15,5,4,3,2,1] [101,51,50,1,0] fun O=>?_))
 refine Zd O Z (fun hc0=>?_) (fun hc0=>?_)
 ·have hgo:0<i∨0<wt.length:=by simp only [Yal,Yj] at hc0;omega
  refine Yf (Za (Ye (Ya (Ya (rZ O (qR rr (qf (Zas .t qi) r1 qz qZ)) V [17,5,4,3,2,1] [101,51,50,1,0] fun O=>?_)))))
  refine Zd O Z (fun hc1=>?_) (fun hc1=>?_)
  ·have hi:0<i:=by simpa using hc1
   obtain ⟨l,x,r,ht⟩:=hr.node (show i≠0 by omega)
   rw [ht] at hr hk
   have hkx:=hr.2.2.2.1
   have hnp:IntKind.wrap .i64 (((wt ++ [getC q i]).length:Int) - 1)=(wt.length:Int):=by rw [Yb,Yah,Zc (by have:=ZM t0;omega)];omega
   obtain ⟨t2,ht2⟩:∃ t2,t2=l:=⟨_,rfl⟩
   obtain ⟨st2,hs2⟩:∃ st2,st2=st ++ [(getC q i,r)]:=⟨_,rfl⟩
   have hmu:(2*Zw t2+stM st2).toNat<(2*Zw t+stM st).toNat:=by rw [ht,hs2,ht2,ZgL];have:=ZI l;have:=ZI r;show (2*Zw l+(stM st+(2*Zw r+1))).toNat<(2*(Zw l+Zw r+1)+stM st).toNat;omega
   have hC2:Rep id q t2 (getC q i).left∧(∀ e ∈ st2,Rep id q e.2 e.1.right)∧wt ++ [getC q i] = st2.map Prod.fst∧out++(tList t2++stL id st2)=tList t0:=⟨by rw [ht2];exact hr.2.1,fun e he=>by rw [hs2] at he;rcases YJ.1 he with he | he; (· exact hst e he); (· rw [Yl.1 he];exact hr.2.2.1),by rw [hs2,hwt];simp,by rw [← hk,ht2,hs2,stL_snoc,hr.pair];simp [tList]⟩
   refine Ya (Zb O (qR rr (qe 2 101 r1 r1 (qR rr (qf (o_callG1 1 (Za6 o room q root i) func107 Z kr (Args.two (.pagg .t) .t)) r2 r1 (qf (Zy (sz:=6) (zs:=[.int .i64 0,.int .i64 0,.int .i64 0,.int .i64 0,.int .i64 0,.int .i64 0]) (r:=[(0,.tmp 21)]) (l:=[_,_,_,_,_,_]) YbE kr kr kr kr Z Z (.agg Z (.conv .t .agg) kr kr .nil) Z) r1 qz (qf (Z1 (sz:=6) (bs:=48) 51 (.mk' YbE kr kr) (by intro x;rfl) .is (.arr (l':=[getC q i]) .t) (by simp only [Yb,Yp,Yx];have:=ZM t0;omega) (by decide)) ⟨rfl,rfl,tv⟩ ⟨rfl,tv⟩ (qO rr qZ))))))) V [5,4,3,2,1] [101,51,50,1,0] (fun _=>rfl) (fun _=>rfl) fun τ a w F O=>?_)
   try dsimp only [RS.sub,SF.sub,CF.sub,csub,Anc.sub,List.map,Ze,xL,xM,Nat.reduceAdd,xD,xE,xT,xU,xC,xN,zCF,ldSF,ZW,Zx] at O
   generalize τ 23=v23 at O
   refine Za (Ya (Zf O (qR rr (qR rr (qf (Zae 51 YbE .is) r1 r1 (qf (o_sub .t qi) r1 qz (qf (o_indexAddr_row (sz:=6) 51 (.mk YbE kr) .is .t ow (by rw [hnp,Yb,Yah];omega) (by rfl)) r2 r1 (qf (Zcx (off:=0) (sz:=6) 51 .t (by rw [hnp,Yb,Yah,Yg];omega) kr (by rfl)) r1 r1 (qf (Zgl (ag:=false) (sz':=1) (sz:=6) 51 .t (by intro x;rfl) (by rw [hnp,Yb,Yah,Yg];omega) kr kr kr) r1 r1 (qO rr qZ)))))))) V [5,4,3,2,1] [101,51,50,1,0] Z Z fun a w F O=>?_))
   try simp only [Yg] at O
   rw [hnp,Yg,ZgZ] at O
   refine Za (Yr (Zj (Zv (Za ?_))))
   obtain ⟨F,O⟩:=O.nM [2,1,4,3,5] [101,1,0,51,50]
   exact ⟨(_,(t2),(st2),_,_,_,_),F,hC2,O,hmu⟩
  have hi:¬ 0<i:=by simpa using hc1
  have hx:=hr.range
  have h0:i=0:=by omega
  rw [h0] at hr
  have hz:t = .nil:=hr.zero
  obtain ⟨st2,e,hse⟩:=ZlM (l:=st) ow
  have hwe:wt=st2.map Prod.fst ++ [e.1]:=by rw [hwt,hse];simp
  have hw2:wt.length=st2.length+1:=by rw [hwl,hse];simp
  have hnw:IntKind.wrap .i64 ((wt.length:Int) - 1)=(st2.length:Int):=by rw [Zc ow];omega
  have hcut0:0≤IntKind.wrap .i64 ((wt.length:Int) - 1):=by omega
  have hcut1:IntKind.wrap .i64 ((wt.length:Int) - 1)≤wt.length:=by omega
  have hne:Nn wt st2.length=e.1:=by rw [hwe];have:=ZgZ (st2.map Prod.fst) e.1;rwa [YF] at this
  have htk:wt.take st2.length=st2.map Prod.fst:=by rw [hwe,show st2.length=(st2.map Prod.fst).length by simp,List.take_left]
  obtain ⟨t2,ht2⟩:∃ t2,t2=e.2:=⟨_,rfl⟩
  have hmu:(2*Zw t2+stM st2).toNat<(2*Zw t+stM st).toNat:=by rw [hz,hse,ht2,ZgL];have:=ZI e.2;have:=ZmN st2;show (2*Zw e.2+stM st2).toNat<(2*0+(stM st2+(2*Zw e.2+1))).toNat;omega
  have hC2:Rep id q t2 e.1.right∧(∀ e ∈ st2,Rep id q e.2 e.1.right)∧st2.map Prod.fst=st2.map Prod.fst∧(out ++ [(⟨e.1.key,e.1.val⟩:Zz)])++(tList t2++stL id st2)=tList t0:=⟨by rw [ht2];exact hst e (by rw [hse];simp),fun x hx=>hst x (by rw [hse];simp [hx]),rfl,by rw [← hk,hz,hse,ht2,stL_snoc];simp [tList,ZD]⟩
  have hol:out.length≤1000000:=by have:=ZM t0;omega
  refine Yf (Za (Ya (Zb O (qR rr (qR rr (qf (Zae 51 YbE .is) r1 r1 (qf (o_sub .t qi) r1 qz (qf (o_indexAddr_row (sz:=6) 51 (.mk YbE kr) .is .t ow ow (by rfl)) r2 r1 (qf (Zn (ag:=true) (sz':=6) (sz:=6) 51 .t (by intro x;rfl) (by rw [hnw,Yg];omega) kr kr kr) r1 r1 (qf (oH [.int .i64 0,.int .i64 0,.int .i64 0,.int .i64 0,.int .i64 0,.int .i64 0] 102) trivial qz (qS 6 102 r2 r1 qZ)))))))) V [6,5,4,3,2,1] [102,101,51,50,1,0] (fun _=>rfl) (fun _=>rfl) fun τ a w F O=>?_)))
  try dsimp only [RS.sub,SF.sub,CF.sub,csub,Anc.sub,List.map,Ze,xL,xM,Nat.reduceAdd,xD,xE,xT,xU,xC,xN,zCF,ldSF,ZW,Zx] at O
  generalize τ 6=v6 at O
  try simp only [Yg] at O
  rw [hnw,Yg,hne] at O
  refine Za (Ya (Zb O (qR rr (qR rr (qf (Zae 51 YbE .is) r1 r1 (qf (o_sub .t qi) r1 qz (qf (ZcP (sz:=6) 51 (.mk YbE kr) (by intro x;rfl) .is .t (by assumption) (by assumption)) r2 r1 (qO rr qZ)))))) V [6,5,4,3,2,1] [102,101,51,50,1,0] (fun _=>rfl) (fun _=>rfl) fun τ a w F O=>?_))
  try dsimp only [RS.sub,SF.sub,CF.sub,csub,Anc.sub,List.map,ZW,Zx] at O
  generalize τ 41=v41 at O
  rw [hnw,Yg,htk] at O
  refine Za (Ya (Zb O (qR rr (qg 2 102 r1 r1 (qa 102 r1 r1 (qg 3 102 r1 r1 (qa 102 r1 r1 (qf (oB [(0,.tmp 44),(1,.tmp 46)] [.int .i64 0,.int .i64 0] [(0,1),(1,1)] (.one Z .t one_int kr (.one Z .t one_int kr .nil))) r2 qz (qf (Zy (sz:=2) (zs:=[.int .i64 0,.int .i64 0]) (r:=[(0,.tmp 47)]) (l:=[_,_]) YbC kr kr kr kr Z Z (.agg Z .t kr kr .nil) Z) r1 qz (qf (Z1 (sz:=2) (bs:=16) 50 (.mk' YbC kr kr) (by intro x;rfl) .is (.arr (l':=[(⟨e.1.key,e.1.val⟩:Zz)]) .t) (by simp only [Yb,Yp,Yx];have:=ZM t0;omega) (by decide)) ⟨rfl,rfl,tv⟩ ⟨rfl,tv⟩ (qO rr qZ))))))))) V [6,5,4,3,2,1] [102,101,51,50,1,0] (fun _=>rfl) (fun _=>rfl) fun τ a w F O=>?_))
  try dsimp only [RS.sub,SF.sub,CF.sub,csub,Anc.sub,List.map,Ze,xL,xM,Nat.reduceAdd,xD,xE,xT,xU,xC,xN,zCF,ldSF,ZW,Zx] at O
  generalize τ 49=v49 at O
  refine Za (Zf O (qg 1 102 r1 r1 (qa 102 r1 r1 (qO rr qZ))) V [5,4,3,2,1] [101,51,50,1,0] Z Z fun a w F O=>Zm (Za ?_))
  obtain ⟨F,O⟩:=O.nM [2,1,4,3,5] [101,1,0,51,50]
  exact ⟨(_,(t2),(st2),_,_,_,_),F,hC2,O,hmu⟩
 have hstop:¬ 0<i∧wt.length=0:=by simp only [YaY,Yh] at hc0;omega
 have hx:=hr.range
 have h0:i=0:=by omega
 rw [h0] at hr
 have hfin:out=tList t0:=by rw [← hk,hr.zero,YS (show st.length=0 by omega)];simp [tList,stL]
 refine Yr (Zj (Zj (Zv (Za (Ya (rZ O (qR rr (qO rr qZ)) V [2] [51,50,1,0] fun O=>Yi ?_))))))
 obtain ⟨F,O⟩:=O.give 50 2 Z rfl
 refine ZA hG O Z (.tmp Z .nil) (.one (.sl (by rw [hfin]))) rfl
theorem ZiM {P:Program} {B:Zbo} {F0:Fp} (hG:ZkX B F0 2) {E:En} {a:Act} {w:World} {F:Fp} {fn:Func} {q:PV} {k1 k2:HP} {ss:List SF} (O:Sat B E a w F) (h0:Go.Gm.look E.r 0=some (frame B)) (hr:ROk P E fn.results.toList ss) (hq:ZeM ss q)
  (h1:Go.Gm.look E.r 1=some (RS.hp k1)) (h2:Go.Gm.look E.r 2=some (RS.hp k2)):bodyPost P fn (RG B F0 2 q (fun _=>[k1,k2])) .ret a w:=
 Zni hG O h0 hr hq fun v τ y hv i h hi=>by
  match i,hi with
  | 0,hi=>simp at hi;subst hi;exact ⟨_,h1,by omega,fun _ _ _ h=>h⟩
  | 1,hi=>simp at hi;subst hi;exact ⟨_,h2,by omega,fun _ _ _ h=>h⟩
def Zlk:Nat→List Zz→Z5
 | 0,_=>.nil
 | n+1,l=>if l = [] then .nil else .node (Zlk n (l.take (l.length / 2))) (Nn l (l.length / 2)) (Zlk n (l.drop (l.length / 2+1)))
def allS (room:Int):Nat→List Cell→Int→List Zz→St
 | 0,q,why,_=>(q,why,0)
 | n+1,q,why,l=>if l = [] then (q,why,0) else
  madeS room (allS room n (allS room n q why (l.take (l.length / 2))).1 (allS room n q why (l.take (l.length / 2))).2.1 (l.drop (l.length / 2+1))).1 (allS room n (allS room n q why (l.take (l.length / 2))).1 (allS room n q why (l.take (l.length / 2))).2.1 (l.drop (l.length / 2+1))).2.1 (allS room n q why (l.take (l.length / 2))).2.2 (allS room n (allS room n q why (l.take (l.length / 2))).1 (allS room n q why (l.take (l.length / 2))).2.1 (l.drop (l.length / 2+1))).2.2 (Nn l (l.length / 2))
theorem ZbQ:∀ (n:Nat) (l:List Zz),l.length<n→tList (Zlk n l)=l
 | 0,l,h=>by omega
 | n+1,l,h=>by
  unfold Zlk
  split
  ·rename_i h;rw [h];rfl
  ·rename_i hl
   have hp:0<l.length:=Yaq.2 hl
   show tList _++_ :: tList _=l
   rw [ZbQ n _ (by rw [Yk];omega),ZbQ n _ (by rw [YT];omega)]
   rw [← Zks (show l.length / 2<l.length by omega),Y2]
def bitsL (m:Nat):Int:=if h:m=0 then 0 else bitsL (m / 2)+1
termination_by m
decreasing_by omega
theorem Zb8:∀ (b a:Nat),a≤b→bitsL a≤bitsL b∧0≤bitsL a
 | b,a,h=>by
  rw [bitsL.eq_def a,bitsL.eq_def b]
  by_cases ha:a=0
  ·by_cases hb:b=0
   ·rw [dif_pos ha,dif_pos hb];omega
   ·rw [dif_pos ha,dif_neg hb]
    have:=Zb8 (b / 2) (b / 2) (Yw _)
    omega
  ·rw [dif_neg ha,dif_neg ow]
   have:=Zb8 (b / 2) (a / 2) ow
   omega
termination_by b=>b
decreasing_by all_goals omega
theorem ZkG (a:Nat):bitsL (a+1)≤bitsL a+1:=by
 rw [bitsL.eq_def (a+1),dif_neg ow]
 have:=Zb8 a ((a+1) / 2) ow
 omega
theorem Zfq:∀ (n:Nat) (l:List Zz),l.length<n→Zg (Zlk n l)=bitsL l.length∧Bal (Zlk n l)
 | 0,l,h=>by omega
 | n+1,l,h=>by
  unfold Zlk
  split
  ·rename_i h;rw [h];exact ⟨by rw [bitsL.eq_def];rfl,tv⟩
  ·rename_i hl
   have hp:0<l.length:=Yaq.2 hl
   have a:=Zfq n (l.take (l.length / 2)) (by rw [Yk];omega)
   have b:=Zfq n (l.drop (l.length / 2+1)) (by rw [YT];omega)
   rw [Yk,YY ow] at a
   rw [YT] at b
   have c:=Zb8 (l.length / 2) (l.length - (l.length / 2+1)) ow
   have d:=ZkG (l.length - (l.length / 2+1))
   have e:=Zb8 (l.length - (l.length / 2+1)+1) (l.length / 2) ow
   refine ⟨?_,a.2,b.2,by omega,by omega⟩
   show max _ _+1=_
   rw [a.1,b.1,bitsL.eq_def l.length,dif_neg ow]
   omega
theorem Zdt {kf:Int→Int} {room:Int} : ∀ (n:Nat) (q:List Cell) (l:List Zz),l.length<n→l.length≤1000000→(∀ p ∈ l,kf p.key=p.key)→ZcY kf room q l.length l.length (allS room n q 0 l) (Zlk n l)
 | 0,q,l,h,_,_=>by omega
 | n+1,q,l,h,hs,hk=>by
  unfold allS Zlk
  split
  ·rename_i h;rw [h];exact ⟨[],(YD q).symm,by simp,.inl ⟨rfl,rfl,by simp⟩⟩
  ·rename_i hl
   have hp:0<l.length:=Yaq.2 hl
   have lt:(l.take (l.length / 2)).length=l.length / 2:=by rw [Yk];omega
   have ld:(l.drop (l.length / 2+1)).length=l.length - (l.length / 2+1):=YT ..
   have h1:=Zdt (room:=room) n q (l.take (l.length / 2)) ow ow fun p hp=>hk p (YaZ hp)
   have t1:=ZM (Zlk n (l.take (l.length / 2)))
   rw [ZbQ n _ ow] at t1
   have t2:=ZM (Zlk n (l.drop (l.length / 2+1)))
   rw [ZbQ n _ ow] at t2
   have bad:∀ (n:Nat) (q:List Cell) (why:Int) (l:List Zz),why≠0→allS room n q why l=(q,why,0):=by
    intro n
    induction n with
    | zero=>intro q why l _;rfl
    | succ n ih=>
     intro q why l hw
     unfold allS
     split
     ·rfl
     ·simp only [ih _ _ _ hw,Zaj hw]
   refine (ZcY.bind (lo':=(l.drop (l.length / 2+1)).length+1) (m:=(l.drop (l.length / 2+1)).length+1) h1 ow (fun e e1 e3 e4=>?_) fun hw=>?_).weak ow ow
   ·rw [e3]
    have h2:=Zdt (room:=room) n (allS room n q 0 (l.take (l.length / 2))).1 (l.drop (l.length / 2+1)) ow ow fun p hp=>hk p (List.mem_of_mem_drop hp)
    refine ZcY.bind (lo':=1) (m:=1) h2 ow (fun f f1 f3 f4=>?_) fun hw=>Zaj hw
    rw [f3]
    exact Zag (by rw [f1];exact e4.app f) f4 (hk _ (Z8 ow)) ow
   ·rw [bad _ _ _ _ hw,Zaj hw]
theorem mall_s (b:Nat) (o:Option Nat) (root why room:Int) (q:List Cell) (n:Nat) (ih:∀ (q:List Cell) (why:Int) (l:List Zz),l.length<n→FnG prog 250 1 [.is (.pointer (some ⟨b,0,none⟩)),.sl Zx l] [Zam 242 (.pointer (some ⟨b,0,none⟩)) o root why room q] (.int .i64 (allS room n q why l).2.2) (fun _=>[Zam 242 (.pointer (some ⟨b,0,none⟩)) o root (allS room n q why l).2.1 room (allS room n q why l).1])) (l:List Zz) (hl:l.length<n+1):FnG prog 250 1 [.is (.pointer (some ⟨b,0,none⟩)),.sl Zx l] [Zam 242 (.pointer (some ⟨b,0,none⟩)) o root why room q] (.int .i64 (allS room (n+1) q why l).2.2) (fun _=>[Zam 242 (.pointer (some ⟨b,0,none⟩)) o root (allS room (n+1) q why l).2.1 room (allS room (n+1) q why l).1]):=by
 refine FnG.mk func250 Z ntmps250 Z kr fun B F0 a w F V hG O=>?_
 have hll:=Sat.lenSl O (i:=1) rfl
 refine Ya (rZ O (qI qZ) V [4,1,0] [1,0] fun O=>(Ya (Ya ?_)))
 refine rZ O (qR rr (qu YbC r1 (qf (o_eql .t qi) r1 qz qZ))) V [8,4,1,0] [1,0] fun O=>?_
 refine Zd O Z (fun hc0=>?_) (fun hc0=>?_)
 ·have hz:l = []:=YS (by simp only [Yj] at hc0;omega)
  have hg:(allS room (n+1) q why l)=(q,why,0):=Yd hz
  refine Ya (rZ O (qI qZ) V [4,1,0] [1,0] fun O=>(Yi (Zk ?_)))
  have O:=O.turn 1 Z (r':=RS.hp (Zam 242 (.pointer (some ⟨b,0,none⟩)) o root (allS room (n+1) q why l).2.1 room (allS room (n+1) q why l).1)) (fun _ _ _ _ h=>by rw [hg];exact h)
  refine ZA hG O Z (.tmp Z .nil) (.one (.int (by first | (rw [hg];done) | (rw [hg];rfl)))) rfl
 have hz:¬ l = []:=by intro hz;rw [hz] at hc0;simp at hc0
 have hp:0<l.length:=Yaq.2 hz
 have hq2:IntKind.wrap .i64 (Int.tdiv (l.length:Int) 2)=((l.length / 2:Nat):Int):=by rw [Int.tdiv_eq_ediv_of_nonneg ow,Zc ow];omega
 have hk1:IntKind.wrap .i64 (((l.length / 2:Nat):Int)+1)=((l.length / 2+1:Nat):Int):=by rw [Zc ow];omega
 have hg:(allS room (n+1) q why l)=(madeS room (allS room n (allS room n q why (l.take (l.length / 2))).1 (allS room n q why (l.take (l.length / 2))).2.1 (l.drop (IntKind.wrap .i64 (((l.length / 2:Nat):Int)+1)).toNat)).1 (allS room n (allS room n q why (l.take (l.length / 2))).1 (allS room n q why (l.take (l.length / 2))).2.1 (l.drop (IntKind.wrap .i64 (((l.length / 2:Nat):Int)+1)).toNat)).2.1 (allS room n q why (l.take (l.length / 2))).2.2 (allS room n (allS room n q why (l.take (l.length / 2))).1 (allS room n q why (l.take (l.length / 2))).2.1 (l.drop (IntKind.wrap .i64 (((l.length / 2:Nat):Int)+1)).toNat)).2.2 (Nn l (l.length / 2))):=by rw [hk1,Yg];exact Yc hz
 refine Yf (Za (Ya (Zf O (qR rr (qu YbC r1 (qf (Zng .t qi (by decide)) r1 qz (qO rr qZ)))) V [5,4,1,0] [1,0] Z Z fun a w F O=>?_)))
 rw [hq2] at O
 refine Za (Ya (Zq O (qR rr (qR rr (qR rr (qR rr (qf (Zf5 (sz:=2) (.mk YbC kr) (by intro x;rfl) .t .t ow ow) r2 qz (qf (o_callG1 1 (ih q why (l.take (l.length / 2)) (by rw [Yk];omega)) func250 Z kr (Args.two .t .t)) r2 r1 (qR rr (qR rr (qR rr (qp r1 (qf (o_slice_lo (sz:=2) (.mk YbC kr) (by intro x;rfl) .t .t (by rw [hk1];omega) (by rw [hk1];omega)) r2 qz (qf (o_callG1 1 (ih (allS room n q why (l.take (l.length / 2))).1 (allS room n q why (l.take (l.length / 2))).2.1 (l.drop (IntKind.wrap .i64 (((l.length / 2:Nat):Int)+1)).toNat) (by rw [YT,hk1];omega)) func250 Z kr (Args.two .t .t)) r2 r1 (qR rr (qR rr (qy 2 YbC r2 (qf (oR true 2 .t) r1 qz (qf (o_callG1 1 (Za8 b o root (allS room n (allS room n q why (l.take (l.length / 2))).1 (allS room n q why (l.take (l.length / 2))).2.1 (l.drop (IntKind.wrap .i64 (((l.length / 2:Nat):Int)+1)).toNat)).2.1 room (allS room n (allS room n q why (l.take (l.length / 2))).1 (allS room n q why (l.take (l.length / 2))).2.1 (l.drop (IntKind.wrap .i64 (((l.length / 2:Nat):Int)+1)).toNat)).1 (allS room n q why (l.take (l.length / 2))).2.2 (allS room n (allS room n q why (l.take (l.length / 2))).1 (allS room n q why (l.take (l.length / 2))).2.1 (l.drop (IntKind.wrap .i64 (((l.length / 2:Nat):Int)+1)).toNat)).2.2 (Nn l (l.length / 2))) func249 Z kr (Args.four .t .t .t (.pagg .t))) r4 r1 (qO rr qZ)))))))))))))))))) V [4] [1,0] Z Z fun a w F O=>?_))
 try dsimp only [List.map,xD,xE,xT,xU,ldSF,ZW,Zx] at O
 try simp only [Yg] at O
 refine Za (Yi ?_)
 have O:=O.turn 1 Z (r':=RS.hp (Zam 242 (.pointer (some ⟨b,0,none⟩)) o root (allS room (n+1) q why l).2.1 room (allS room (n+1) q why l).1)) (fun _ _ _ _ h=>by rw [hg];exact h)
 refine ZA hG O Z (.tmp Z .nil) (.one (.int (by first | (rw [hg];done) | (rw [hg];rfl)))) rfl
theorem ZpG (b:Nat) (o:Option Nat) (root room:Int):∀ (n:Nat) (q:List Cell) (why:Int) (l:List Zz),l.length<n→FnG prog 250 1 [.is (.pointer (some ⟨b,0,none⟩)),.sl Zx l] [Zam 242 (.pointer (some ⟨b,0,none⟩)) o root why room q] (.int .i64 (allS room n q why l).2.2) (fun _=>[Zam 242 (.pointer (some ⟨b,0,none⟩)) o root (allS room n q why l).2.1 room (allS room n q why l).1]):=fun n=>by
 induction n with
 | zero=>intro q why l h;omega
 | succ n ih=>intro q why l h;exact mall_s b o root why room q n ih l h
abbrev kz:Int→Int:=fun _=>0
theorem ZmK (o:Option Nat):FnP prog 124 [.is (arV o)] (.agg [.is (arV o),.int .i64 0]):=by
 refine FnP.mk func124 Z ntmps124 Z fun B a w F V hfr O=>Ya ?_
 refine Zb O (qf (oH [.pointer none,.int .i64 0] 101) trivial qz qZ) V [2,0] [101,0] (fun _=>rfl) (fun _=>rfl) fun τ a w F O=>?_
 try dsimp only [RS.sub,SF.sub,CF.sub,csub,Anc.sub,List.map,zCF,ZW,Zx] at O
 generalize τ 2=v2 at O
 refine Za (Ya (rZ O (qR rr (qf (oB [(0,.tmp 3)] [.pointer none,.int .i64 0] [(0,1),(1,1)] (.one Z .t Zgn kr .nil)) r1 qz (qs 2 101 r2 r1 qZ))) V [2] [101,0] fun O=>Yi ?_))
 refine Za4 hfr O Z (.cl 101 true 2 Z Z .nil) (.one (.aggU Z Z))
def Zm9 (th:Bool) (q:List Cell) (m:St):St:=if th=true then Zcn q.length m else (q,1,0)
def kp (x:Int):Zz:=⟨0,x⟩
def allQ (room:Int):Nat→List Cell→Int→List Int→St
 | 0,q,why,_=>(q,why,0)
 | n+1,q,why,l=>if l = [] then (q,why,0) else
  madeS room (allQ room n (allQ room n q why (l.take (l.length / 2))).1 (allQ room n q why (l.take (l.length / 2))).2.1 (l.drop (l.length / 2+1))).1 (allQ room n (allQ room n q why (l.take (l.length / 2))).1 (allQ room n q why (l.take (l.length / 2))).2.1 (l.drop (l.length / 2+1))).2.1 (allQ room n q why (l.take (l.length / 2))).2.2 (allQ room n (allQ room n q why (l.take (l.length / 2))).1 (allQ room n q why (l.take (l.length / 2))).2.1 (l.drop (l.length / 2+1))).2.2 ⟨0,Nn l (l.length / 2)⟩
theorem ZpF {l:List Int} {i:Nat} (h:i<l.length):Nn (l.map kp) i = ⟨0,Nn l i⟩:=by rw [ZE (by simpa using h),ZE h,Yae];rfl
theorem ZlT (room:Int):∀ (n:Nat) (q:List Cell) (why:Int) (l:List Int),allQ room n q why l=allS room n q why (l.map kp)
 | 0,q,why,l=>rfl
 | n+1,q,why,l=>by
  unfold allQ allS
  by_cases h:l = []
  ·rw [Yd h,Yd (by rw [h];rfl)]
  ·have hp:0<l.length:=Yaq.2 h
   rw [Yc h,Yc (by simpa using h),YF,← List.map_take,← List.map_drop,ZpF ow]
   simp only [ZlT room n]
theorem shr1 (l:List Int):Int.fdiv (l.length:Int) (2 ^ min (1:Int).toNat (IntKind.bits .i64))=((l.length / 2:Nat):Int):=by
 have:min (1:Int).toNat (IntKind.bits .i64)=1:=by decide
 rw [this,Int.fdiv_eq_ediv_of_nonneg _ (by decide)]
 omega
theorem sall_s (b:Nat) (o:Option Nat) (root why room:Int) (q:List Cell) (n:Nat) (ih:∀ (q:List Cell) (why:Int) (l:List Int),l.length<n→FnG prog 127 1 [.is (.pointer (some ⟨b,0,none⟩)),.sl ZG l] [Zam 247 (.pointer (some ⟨b,0,none⟩)) o root why room q] (.int .i64 (allQ room n q why l).2.2) (fun _=>[Zam 247 (.pointer (some ⟨b,0,none⟩)) o root (allQ room n q why l).2.1 room (allQ room n q why l).1])) (l:List Int) (hl:l.length<n+1):FnG prog 127 1 [.is (.pointer (some ⟨b,0,none⟩)),.sl ZG l] [Zam 247 (.pointer (some ⟨b,0,none⟩)) o root why room q] (.int .i64 (allQ room (n+1) q why l).2.2) (fun _=>[Zam 247 (.pointer (some ⟨b,0,none⟩)) o root (allQ room (n+1) q why l).2.1 room (allQ room (n+1) q why l).1]):=by
 refine FnG.mk func127 Z ntmps127 Z kr fun B F0 a w F V hG O=>?_
 have hll:=Sat.lenSl O (i:=1) rfl
 refine Ya (rZ O (qI qZ) V [4,1,0] [1,0] fun O=>(Ya (Ya ?_)))
 refine rZ O (qR rr (qu Yby r1 (qf (o_eql .t qi) r1 qz qZ))) V [9,4,1,0] [1,0] fun O=>?_
 refine Zd O Z (fun hc0=>?_) (fun hc0=>?_)
 ·have hz:l = []:=YS (by simp only [Yj] at hc0;omega)
  have hg:(allQ room (n+1) q why l)=(q,why,0):=Yd hz
  refine Ya (rZ O (qI qZ) V [4,1,0] [1,0] fun O=>(Yi (Zk ?_)))
  have O:=O.turn 1 Z (r':=RS.hp (Zam 247 (.pointer (some ⟨b,0,none⟩)) o root (allQ room (n+1) q why l).2.1 room (allQ room (n+1) q why l).1)) (fun _ _ _ _ h=>by rw [hg];exact h)
  refine ZA hG O Z (.tmp Z .nil) (.one (.int (by first | (rw [hg];done) | (rw [hg];rfl)))) rfl
 have hz:¬ l = []:=by intro hz;rw [hz] at hc0;simp at hc0
 have hp:0<l.length:=Yaq.2 hz
 have hk1:IntKind.wrap .i64 (((l.length / 2:Nat):Int)+1)=((l.length / 2+1:Nat):Int):=by rw [Zc ow];omega
 have hg:(allQ room (n+1) q why l)=(madeS room (allQ room n (allQ room n q why (l.take (l.length / 2))).1 (allQ room n q why (l.take (l.length / 2))).2.1 (l.drop (IntKind.wrap .i64 (((l.length / 2:Nat):Int)+1)).toNat)).1 (allQ room n (allQ room n q why (l.take (l.length / 2))).1 (allQ room n q why (l.take (l.length / 2))).2.1 (l.drop (IntKind.wrap .i64 (((l.length / 2:Nat):Int)+1)).toNat)).2.1 (allQ room n q why (l.take (l.length / 2))).2.2 (allQ room n (allQ room n q why (l.take (l.length / 2))).1 (allQ room n q why (l.take (l.length / 2))).2.1 (l.drop (IntKind.wrap .i64 (((l.length / 2:Nat):Int)+1)).toNat)).2.2 ⟨0,Nn l (l.length / 2)⟩):=by rw [hk1,Yg];exact Yc hz
 refine Yf (Za (Ya (Zf O (qR rr (qu Yby r1 (qf (Zg4 .t qi (by decide)) r1 qz (qO rr qZ)))) V [5,4,1,0] [1,0] Z Z fun a w F O=>?_)))
 rw [shr1] at O
 refine Za (Ya (rZ O (qR rr (qR rr (qR rr (qf (Zf5 (sz:=1) (.mk Yby kr) (by intro x;rfl) .t .t ow ow) r2 qz (qf (o_callG1 1 (ih q why (l.take (l.length / 2)) (by rw [Yk];omega)) func127 Z kr (Args.two .t .t)) r2 r1 (qO rr qZ)))))) V [6,5,4,1,0] [1,0] fun O=>Ya ?_))
 refine Zq O (qR rr (qR rr (qR rr (qR rr (qR rr (qp r1 (qf (o_slice_lo (sz:=1) (.mk Yby kr) (by intro x;rfl) .t .t (by rw [hk1];omega) (by rw [hk1];omega)) r2 qz (qf (o_callG1 1 (ih (allQ room n q why (l.take (l.length / 2))).1 (allQ room n q why (l.take (l.length / 2))).2.1 (l.drop (IntKind.wrap .i64 (((l.length / 2:Nat):Int)+1)).toNat) (by rw [YT,hk1];omega)) func127 Z kr (Args.two .t .t)) r2 r1 (qR rr (qR rr (qy 1 Yby r2 (qf (oR false 1 .t) r1 qz (qf (o_callG1 1 (Zo5 b o root (allQ room n (allQ room n q why (l.take (l.length / 2))).1 (allQ room n q why (l.take (l.length / 2))).2.1 (l.drop (IntKind.wrap .i64 (((l.length / 2:Nat):Int)+1)).toNat)).2.1 room (allQ room n (allQ room n q why (l.take (l.length / 2))).1 (allQ room n q why (l.take (l.length / 2))).2.1 (l.drop (IntKind.wrap .i64 (((l.length / 2:Nat):Int)+1)).toNat)).1 (allQ room n q why (l.take (l.length / 2))).2.2 (allQ room n (allQ room n q why (l.take (l.length / 2))).1 (allQ room n q why (l.take (l.length / 2))).2.1 (l.drop (IntKind.wrap .i64 (((l.length / 2:Nat):Int)+1)).toNat)).2.2 (Nn l (l.length / 2))) func190 Z kr (Args.four .t .t .t .t)) r4 r1 (qO rr qZ)))))))))))))) V [4] [1,0] Z Z fun a w F O=>?_
 try dsimp only [List.map,xD,xE,xT,xU,ldSF,ZW,Zx] at O
 try simp only [Yg] at O
 refine Za (Yi ?_)
 have O:=O.turn 1 Z (r':=RS.hp (Zam 247 (.pointer (some ⟨b,0,none⟩)) o root (allQ room (n+1) q why l).2.1 room (allQ room (n+1) q why l).1)) (fun _ _ _ _ h=>by rw [hg];exact h)
 refine ZA hG O Z (.tmp Z .nil) (.one (.int (by first | (rw [hg];done) | (rw [hg];rfl)))) rfl
theorem ZpR (b:Nat) (o:Option Nat) (root room:Int):∀ (n:Nat) (q:List Cell) (why:Int) (l:List Int),l.length<n→FnG prog 127 1 [.is (.pointer (some ⟨b,0,none⟩)),.sl ZG l] [Zam 247 (.pointer (some ⟨b,0,none⟩)) o root why room q] (.int .i64 (allQ room n q why l).2.2) (fun _=>[Zam 247 (.pointer (some ⟨b,0,none⟩)) o root (allQ room n q why l).2.1 room (allQ room n q why l).1]):=fun n=>by
 induction n with
 | zero=>intro q why l h;omega
 | succ n ih=>intro q why l h;exact sall_s b o root why room q n ih l h
theorem Zp8 (b:Nat) (o:Option Nat) (root room:Int) (q:List Cell) (l:List Int):FnG prog 126 1 [.is (.pointer (some ⟨b,0,none⟩)),.ref [.sl ZG l]] [Zam 247 (.pointer (some ⟨b,0,none⟩)) o root 0 room q] (.int .i64 (allQ room (l.length+1) q 0 l).2.2) (fun _=>[Zam 247 (.pointer (some ⟨b,0,none⟩)) o root (allQ room (l.length+1) q 0 l).2.1 room (allQ room (l.length+1) q 0 l).1]):=by
 refine FnG.mk func126 Z ntmps126 Z kr fun B F0 a w F V hG O=>Ya ?_
 refine rZ O (qI qZ) V [3,1,0] [1,0] fun O=>Ya ?_
 refine rZ O (qR rr (qf (oR false 1 .t) r1 qz (qf (o_callG1 1 (ZpR b o root room (l.length+1) q 0 l (Nat.lt_succ_self _)) func127 Z kr (Args.two .t .t)) r2 r1 (qO rr qZ)))) V [3] [1,0] fun O=>Yi ?_
 refine ZA hG O Z (.tmp Z .nil) (.one (.int Z)) rfl
theorem Zmz (o : Option Nat) (room : Int) (q : List Cell) (root : Int) (th : Bool) (f : FuncId) (fn : Func) (cps : List PV) (hf : prog.funcs[f]? = some fn) (hb : fn.body.isSome = true) (hnn : (fn.name == "runtime.NumGoroutine") = false) (M : St) (hw : th = true → ∀ b, FnG prog f 1 (.is (.pointer (some ⟨b, 0, none⟩)) :: cps) [Zam 247 (.pointer (some ⟨b, 0, none⟩)) o root 0 room q] (.int .i64 M.2.2) (fun _ => [Zam 247 (.pointer (some ⟨b, 0, none⟩)) o root M.2.1 room M.1])) : FnG prog 125 1 [.agg [.is (arV o), .int .i64 root], .bool th, .clos f cps] [arH o room q] (.tup [.agg [.is (arV o), .int .i64 (Zm9 th q M).2.2], .int .i64 (Zm9 th q M).2.1]) (fun _ => [arH o room (Zm9 th q M).1]) := by
 refine FnG.mk func125 Z ntmps125 Z kr fun B F0 a w F V hG O=>Ya ?_
 refine Zb O (qx 101 r1 (qf (oH [.pointer none,.int .i64 0] 102) trivial qz (qI qZ))) V [7,6,3,2,1] [102,101,1,0] (fun _=>rfl) (fun _=>rfl) fun τ a w F O=>?_
 try dsimp only [RS.sub,SF.sub,CF.sub,csub,Anc.sub,List.map,zCF,ZW,Zx] at O
 generalize τ 3=v3,τ 6=v6 at O
 refine Za (Ya (Ya (rZ O (qR rr (qf (ZaA .t) r1 qz qZ)) V [12,7,6,3,2] [102,101,1,0] fun O=>?_)))
 refine Zd O Z (fun hc0=>?_) (fun hc0=>?_)
 ·skip
  have hth:th=false:=by simpa using hc0
  have hg:(Zm9 th q M)=(q,1,0):=by rw [hth];rfl
  refine Ya (rZ O (qg 0 101 r1 r1 (qa 101 r1 r1 (qf (oP (ZmK o) func124 (Args.one .t)) r1 qz (qf (oA 2 102 .is (.conv .t .agg)) r2 r1 (qI qZ))))) V [7,6,3,2] [102,101,1,0] fun O=>(Yi (Zk ?_)))
  have O:=O.turn 1 Z (r':=RS.hp (arH o room (Zm9 th q M).1)) (fun _ _ _ _ h=>by rw [hg];exact h)
  refine ZA hG O Z (.cl 102 true 2 Z Z (.tmp Z .nil)) (.two (.aggU Z (by rw [hg];rfl)) (.int (by rw [hg]))) rfl
 have hth:th=true:=by simpa using hc0
 refine Yf (Za (Ya (Zb O (qe 2 101 r1 r1 (qf (oB [(0,.tmp 16)] [.pointer none,.int .i64 0,.int .i64 0] [(0,2),(2,1)] (.agg Z .t kr kr .nil)) r1 qz (qf (oX 103 .t) r1 qz (qO rr qZ)))) V [8,7,6,3,2] [103,102,101,1,0] (fun _=>rfl) (fun _=>rfl) fun τ a w F O=>?_)))
 try dsimp only [RS.sub,SF.sub,CF.sub,csub,Anc.sub,List.map,Ze,xL,xM,Nat.reduceAdd,xD,xE,xT,xU,xC,xN,zCF,ldSF,ZW,Zx] at O
 generalize τ 18=v18 at O
 refine Za (Ya (rZ O (qg 0 101 r1 r1 (qa 101 r1 r1 (qf (o_callG1 1 (Zkg o room q) func182 Z kr (Args.one .t)) r1 r1 (qO rr qZ)))) V [9,8,7,6,3,2] [103,102,101,1,0] fun O=>Ya ?_))
 obtain ⟨b,rfl⟩:=O.shape 103 rfl
 have O:=O.fresh 4 rfl
 obtain ⟨F,O⟩:=O.push 4 1 Z Z Z kr
 obtain ⟨F,O⟩:=O.push 4 103 Z Z Z kr
 have O:=O.turn 4 Z (r':=RS.hp (Zam 247 (.pointer (some ⟨b,0,none⟩)) o root 0 room q)) (fun _ _ _ _ h=>h)
 obtain ⟨F,O⟩:=O.nM [9,8,7,6,3,2] [102,101,4,0]
 refine Zf O (qR rr (qR rr (qf (ZkR 4 .t (hw hth b) hf hb hnn (Args.one .t)) r2 r1 (qO rr qZ)))) V [10,9,8,7,6,3] [102,101,4,0] Z Z fun a w F O=>?_
 obtain ⟨F,O⟩:=O.peel 4 7 Z rfl
 obtain ⟨F,O⟩:=O.peel 4 1 Z rfl
 obtain ⟨F,O⟩:=O.nM [10,9,8,7,6,3] [102,101,7,1,0]
 refine Za (Ya (Ya (rZ O (qR rr (qf (o_nilCheck 7 .is (by rfl)) r1 r1 (qf (oF 2 7 .adr) r1 r1 (qa 7 r1 r1 (qf (o_neq .t qi) r1 qz qZ))))) V [29,10,9,8,7,6,3] [102,101,7,1,0] fun O=>?_)))
 refine Zd O Z (fun hc1=>?_) (fun hc1=>?_)
 ·skip
  have hM:M.2.1≠0:=by simpa using hc1
  have hg:(Zm9 th q M)=(Zb5 M.1 q.length,M.2.1,0):=by rw [hth];show Zcn q.length M=_;unfold Zcn;rw [Yd hM,Yd hM]
  refine Ya (rZ O (qg 0 101 r1 r1 (qa 101 r1 r1 (qR rr (qf (o_callG1 1 (Zoq o room M.1 q.length) func189 Z kr (Args.two .t .t)) r2 r1 qZ)))) V [10,8,7,6,3] [102,101,7,1,0] fun O=>Ya ?_)
  refine Zq O (qg 0 101 r1 r1 (qa 101 r1 r1 (qf (oP (ZmK o) func124 (Args.one .t)) r1 qz (qR rr (qf (o_nilCheck 7 .is (by rfl)) r1 r1 (qf (oF 2 7 .adr) r1 r1 (qa 7 r1 r1 (qf (oA 2 102 .is (.conv .t .agg)) r2 r1 (qO rr qZ))))))))) V [10,7,6,3] [102,101,7,1,0] Z Z fun a w F O=>?_
  try dsimp only [List.map,Ze,xL,xM,Nat.reduceAdd,xD,xE,xT,xU,xC,xN,zCF,ldSF,ZW,Zx] at O
  refine Za (Yi (Zk ?_))
  have O:=O.turn 1 Z (r':=RS.hp (arH o room (Zm9 th q M).1)) (fun _ _ _ _ h=>by rw [hg];exact h)
  refine ZA hG O Z (.cl 102 true 2 Z Z (.tmp Z .nil)) (.two (.aggU Z (by rw [hg];rfl)) (.int (by rw [hg]))) rfl
 have hM:M.2.1=0:=by simpa using hc1
 have hg:(Zm9 th q M)=(M.1,0,M.2.2):=by rw [hth];show Zcn q.length M=_;unfold Zcn;rw [Yc ow,Yc ow,hM]
 refine Yf (Za (Ya (rZ O (qg 0 101 r1 r1 (qa 101 r1 r1 (qR rr (qf (oB [(0,.tmp 42),(1,.tmp 43)] [.pointer none,.int .i64 0] [(0,1),(1,1)] (.one Z .t Zgn kr (.one Z .t one_int kr .nil))) r2 qz (qs 2 102 r2 r1 (qI qZ)))))) V [7,6] [102,7,1,0] fun O=>Yi ?_)))
 have O:=O.turn 1 Z (r':=RS.hp (arH o room (Zm9 th q M).1)) (fun _ _ _ _ h=>by rw [hg];exact h)
 refine ZA hG O Z (.cl 102 true 2 Z Z (.tmp Z .nil)) (.two (.aggU Z (by rw [hg];rfl)) (.int (by rw [hg]))) rfl
def Zol (room:Int) (q:List Cell) (l:List Int):St:=Zm9 true q (allQ room (l.length+1) q 0 l)
theorem ZpB (o:Option Nat) (room:Int) (q:List Cell) (l:List Int):FnG prog 65 1 [.is (arV o),.sl ZG l] [arH o room q] (.tup [.agg [.is (arV o),.int .i64 (Zol room q l).2.2],.int .i64 (Zol room q l).2.1]) (fun _=>[arH o room (Zol room q l).1]):=by
 refine FnG.mk func65 Z ntmps65 Z kr fun B F0 a w F V hG O=>Ya ?_
 refine Zb O (qf (Zjy 101 .t Zcc) r1 qz (qf (oH [.pointer none,.int .i64 0] 102) trivial qz (qI qZ))) V [5,4,3,0] [102,101,1,0] (fun _=>rfl) (fun _=>rfl) fun τ a w F O=>?_
 try dsimp only [RS.sub,SF.sub,CF.sub,csub,Anc.sub,List.map,zCF,ZW,Zx] at O
 generalize τ 3=v3,τ 4=v4 at O
 obtain ⟨F,O⟩:=O.giveRef 101 3 Z Z rfl
 obtain ⟨F,O⟩:=O.nM [5,4,3,0] [102,1,0]
 try dsimp only [Go.Gm.unCF] at O
 refine Za (Ya (rZ O (qR rr (qf (oP (ZmK o) func124 (Args.one .t)) r1 qz (qf (ZbX (Args.one .t)) r1 qz (qf (o_callG1 1 (Zmz o room q 0 true 126 f126 [.ref [.sl ZG l]] func126 Z kr (allQ room (l.length+1) q 0 l) (fun h b=>Zp8 b o 0 room q l)) func125 Z kr (Args.three .t .cb .t)) r2 r1 (qf (o_extract .t Z) r1 qz (qf (o_extract .t Z) r1 qz (qf (oA 2 102 .is (.conv .t .agg)) r2 r1 (qO rr qZ)))))))) V [5,4] [102,1,0] fun O=>Yi ?_))
 refine ZA hG O Z (.cl 102 true 2 Z Z (.tmp Z .nil)) (.two (.aggU Z Z) (.int Z)) rfl
def Zbc (t:Z5):List Int:=(tList t).map Zz.val
theorem ZlC (t:Z5):((Zbc t).length:Int)=Zw t:=by rw [ZM];simp [Zbc]
theorem tVals_node (l r:Z5) (p:Zz):Zbc (.node l p r)=Zbc l++p.val :: Zbc r:=by simp [Zbc,tList]
def stV (q:List Cell):List (Int×Z5)→List Int
 | []=>[]
 | e :: st=>stV q st++((getC q e.1).val :: Zbc e.2)
def Zip:List (Int×Z5)→Int
 | []=>0
 | e :: st=>Zip st+(2*Zw e.2+1)
theorem stV_snoc (q:List Cell) (e:Int×Z5):∀ st:List (Int×Z5),stV q (st ++ [e])=(getC q e.1).val :: (Zbc e.2++stV q st)
 | []=>by simp [stV]
 | x :: st=>by rw [YO,stV,stV_snoc q e st,stV];simp
theorem ZfC (e:Int×Z5):∀ st:List (Int×Z5),Zip (st ++ [e])=Zip st+(2*Zw e.2+1)
 | []=>by simp [Zip]
 | x :: st=>by rw [YO,Zip,ZfC e st,Zip];omega
theorem Zi5:∀ st:List (Int×Z5),0≤Zip st
 | []=>Yak 0
 | e :: st=>by have:=Zi5 st;have:=ZI e.2;rw [Zip];omega
theorem ZlU (q:List Cell):∀ st:List (Int×Z5),st.length≤(stV q st).length
 | []=>Yw 0
 | e :: st=>by have:=ZlU q st;rw [stV,Yb,Yp,Yp];omega
theorem ZlG (o:Option Nat) (room:Int) (q:List Cell) (root:Int) (t0:Z5) (hr0:Rep kz q t0 root) (hs:Zw t0≤1000000):FnG prog 57 1 [.agg [.is (arV o),.int .i64 root]] [arH o room q] (.sl ZG (Zbc t0)) (fun _=>[arH o room q]):=by
 refine FnG.mk func57 Z ntmps57 Z kr fun B F0 a w F V hG O=>Ya ?_
 refine Zb O (qx 101 r1 (qC qZ)) V [2,1] [101,1,0] (fun _=>rfl) (fun _=>rfl) fun τ a w F O=>?_
 try dsimp only [RS.sub,SF.sub,CF.sub,csub,Anc.sub,List.map,zCF,ZW,ZG] at O
 generalize τ 1=v1 at O
 refine Za (Ya (rZ O (qC qZ) V [3,2,1] [101,1,0] fun O=>Ya ?_))
 refine rZ O (qC qZ) V [4,3,2,1] [101,1,0] fun O=>(Ya (Ya ?_))
 refine rZ O (qg 1 101 r1 r1 (qa 101 r1 r1 (qO rr qZ))) V [5,4,3,2,1] [101,1,0] fun O=>Ye ?_
 replace O:=O.fresh 50 rfl
 replace O:=O.turn 50 Z (ZaI (T:=3) (sz:=1) (R:=ZG))
 replace O:=O.fresh 51 rfl
 replace O:=O.turn 51 Z (ZaI (T:=3) (sz:=1) (R:=ZG))
 refine Zo (σ:=Int×Z5×List (Int×Z5)×Value×List Int×Value×List Int) [1,2] [0,1,101] (fun s=>[(5,.pv (.int .i64 s.1)),(3,.pv (.is s.2.2.2.1)),(4,.pv (.is s.2.2.2.2.2.1))]) (fun s=>[(50,.ob (.val s.2.2.2.1) (ZJ 3 1 ZG s.2.2.2.2.1)),(51,.ob (.val s.2.2.2.2.2.1) (ZJ 3 1 ZG s.2.2.2.2.2.2))]) (fun s=>Rep kz q s.2.1 s.1∧(∀ e ∈ s.2.2.1,Rep kz q e.2 (getC q e.1).right)∧s.2.2.2.2.2.2=s.2.2.1.map Prod.fst∧s.2.2.2.2.1++(Zbc s.2.1++stV q s.2.2.1)=Zbc t0) (fun s=>(2*Zw s.2.1+Zip s.2.2.1).toNat) ((root),(t0),([]),(.slice none 0 0),([]),(.slice none 0 0),([])) O ⟨rfl,rfl,rfl,rfl,rfl,tv⟩ ⟨rfl,rfl,rfl,rfl,rfl,tv⟩ ⟨hr0,fun e he=>by simp at he,rfl,by simp [stV]⟩ ?_
 clear O;intro s a w F hC O
 obtain ⟨i,t,st,v,out,wv,wt⟩:=s
 try dsimp only at hC
 obtain ⟨F,O⟩:=O.nM [5,4,3,2,1] [101,51,50,1,0]
 try dsimp only at O
 obtain ⟨hr,hst,hwt,hk⟩:=hC
 have hkl:=Yaf List.length hk
 simp only [Yb] at hkl
 have hsl:=ZlU q st
 have hwl:=Yaf List.length hwt
 rw [YF] at hwl
 have hnn:=Zi5 st
 have hsz:=ZlC t0
 refine Ya (Ya (rZ O (qR rr (qf (Zas .t qi) r1 qz (qR rr (qm Z Z Z Z (qk Z (fun h=>Zae 51 Yby (.w h .is)) r2 r1 (qk Z (fun h=>Zas (.w h) qi) r2 qz (qf (ZaQ .t .t) r2 qz qZ))))))) V [15,5,4,3,2,1] [101,51,50,1,0] fun O=>?_))
 refine Zd O Z (fun hc0=>?_) (fun hc0=>?_)
 ·have hgo:0<i∨0<wt.length:=by simp only [Yal,Yj] at hc0;omega
  refine Yf (Za (Ye (Ya (Ya (rZ O (qR rr (qf (Zas .t qi) r1 qz qZ)) V [17,5,4,3,2,1] [101,51,50,1,0] fun O=>?_)))))
  refine Zd O Z (fun hc1=>?_) (fun hc1=>?_)
  ·have hi:0<i:=by simpa using hc1
   obtain ⟨l,pp,r,ht⟩:=hr.node (show i≠0 by omega)
   rw [ht] at hr hk
   have hvx:(getC q i).val=pp.val:=hr.2.2.2.2.2.1
   obtain ⟨t2,ht2⟩:∃ t2,t2=l:=⟨_,rfl⟩
   obtain ⟨st2,hs2⟩:∃ st2,st2=st ++ [(i,r)]:=⟨_,rfl⟩
   have hmu:(2*Zw t2+Zip st2).toNat<(2*Zw t+Zip st).toNat:=by rw [ht,hs2,ht2,ZfC];have:=ZI l;have:=ZI r;show (2*Zw l+(Zip st+(2*Zw r+1))).toNat<(2*(Zw l+Zw r+1)+Zip st).toNat;omega
   have hC2:Rep kz q t2 (getC q i).left∧(∀ e ∈ st2,Rep kz q e.2 (getC q e.1).right)∧wt ++ [i] = st2.map Prod.fst∧out++(Zbc t2++stV q st2)=Zbc t0:=⟨by rw [ht2];exact hr.2.1,fun e he=>by rw [hs2] at he;rcases YJ.1 he with he | he; (· exact hst e he); (· rw [Yl.1 he];exact hr.2.2.1),by rw [hs2,hwt];simp,by rw [← hk,ht2,hs2,stV_snoc,tVals_node,hvx];simp⟩
   refine Ya (Zb O (qR rr (qR rr (qf (Zy (sz:=1) (zs:=[.int .i64 0]) (r:=[(0,.tmp 19)]) (l:=[_]) Yby kr kr kr kr Z Z (.one Z .t one_int kr .nil) Z) r1 qz (qf (Z1 (sz:=1) (bs:=8) 51 (.mk' Yby kr kr) (by intro x;rfl) .is (.arr (l':=[i]) .t) (by simp only [Yb,Yp,Yx];omega) (by decide)) ⟨rfl,rfl,tv⟩ ⟨rfl,tv⟩ (qO rr qZ))))) V [5,4,3,2,1] [101,51,50,1,0] (fun _=>rfl) (fun _=>rfl) fun τ a w F O=>?_)
   try dsimp only [RS.sub,SF.sub,CF.sub,csub,Anc.sub,List.map,Ze,xL,xM,Nat.reduceAdd,xD,xE,xT,xU,xC,xN,zCF,ZW,ZG] at O
   generalize τ 21=v21 at O
   refine Za (Ya (rZ O (qe 2 101 r1 r1 (qR rr (qf (o_callG1 1 (scell_c o room q root i) func109 Z kr (Args.two (.pagg .t) .t)) r2 r1 (qf (ZdO (ft:=3) (off:=0) kr kr .t Z) r1 qz (qO rr qZ))))) V [5,4,3,2,1] [101,51,50,1,0] fun O=>(Yr (Zj (Zv (Za ?_))))))
   obtain ⟨F,O⟩:=O.nM [2,1,4,3,5] [101,1,0,51,50]
   exact ⟨(_,(t2),(st2),_,_,_,_),F,hC2,O,hmu⟩
  have hi:¬ 0<i:=by simpa using hc1
  have hx:=hr.range
  have h0:i=0:=by omega
  rw [h0] at hr
  have hz:t = .nil:=hr.zero
  obtain ⟨st2,e,hse⟩:=ZlM (l:=st) ow
  have hwe:wt=st2.map Prod.fst ++ [e.1]:=by rw [hwt,hse];simp
  have hw2:wt.length=st2.length+1:=by rw [hwl,hse];simp
  have hnw:IntKind.wrap .i64 ((wt.length:Int) - 1)=(st2.length:Int):=by rw [Zc ow];omega
  have hne:Nn wt st2.length=e.1:=by rw [hwe];have:=ZgZ (st2.map Prod.fst) e.1;rwa [YF] at this
  have htk:wt.take st2.length=st2.map Prod.fst:=by rw [hwe,show st2.length=(st2.map Prod.fst).length by simp,List.take_left]
  have hne2:Nn wt (IntKind.wrap .i64 ((wt.length:Int) - 1)).toNat=e.1:=by rw [hnw,Yg];exact hne
  obtain ⟨t2,ht2⟩:∃ t2,t2=e.2:=⟨_,rfl⟩
  have hmu:(2*Zw t2+Zip st2).toNat<(2*Zw t+Zip st).toNat:=by rw [hz,hse,ht2,ZfC];have:=ZI e.2;have:=Zi5 st2;show (2*Zw e.2+Zip st2).toNat<(2*0+(Zip st2+(2*Zw e.2+1))).toNat;omega
  have hC2:Rep kz q t2 (getC q e.1).right∧(∀ e ∈ st2,Rep kz q e.2 (getC q e.1).right)∧st2.map Prod.fst=st2.map Prod.fst∧(out ++ [(getC q e.1).val])++(Zbc t2++stV q st2)=Zbc t0:=⟨by rw [ht2];exact hst e (by rw [hse];simp),fun x hx=>hst x (by rw [hse];simp [hx]),rfl,by rw [← hk,hz,hse,ht2,stV_snoc];simp [Zbc,tList]⟩
  have hcut0:0≤IntKind.wrap .i64 ((wt.length:Int) - 1):=by omega
  have hcut1:IntKind.wrap .i64 ((wt.length:Int) - 1)≤wt.length:=by omega
  have hol:out.length≤1000000:=by omega
  refine Yf (Za (Ya (Zau O (qe 2 101 r1 r1 (qR rr (qR rr (qf (Zae 51 Yby .is) r1 r1 (qf (o_sub .t qi) r1 qz (qf (o_indexAddr_row (sz:=1) 51 (.mk Yby kr) .is .t ow ow (by rfl)) r2 r1 (qf (Zn (ag:=false) (sz':=1) (sz:=1) 51 .t (by intro x;rfl) (by rw [hnw,Yg];omega) kr kr kr) r1 r1 (qf (o_callG1 1 (scell_c o room q root (Nn wt (IntKind.wrap .i64 ((wt.length:Int) - 1)).toNat)) func109 Z kr (Args.two (.pagg .t) .t)) r2 r1 (qf (oH [.int .i64 0,.int .i64 0,.int .i64 0,.int .i64 0,.int .i64 0,.int .i64 0] 102) trivial qz (qf (oA 6 102 .same (.conv .t .agg)) r2 r1 qZ)))))))))) V [6,5,4,3,2,1] [102,101,51,50,1,0] (fun _=>rfl) (fun _=>rfl) fun τ a w F O=>?_)))
  try dsimp only [RS.sub,SF.sub,CF.sub,csub,Anc.sub,List.map,Ze,xL,xM,Nat.reduceAdd,xD,xE,xT,xU,xC,xN,zCF,ldSF,ZW,ZG] at O
  generalize τ 6=v6 at O
  try simp only [Yg] at O
  rw [hne2] at O
  refine Za (Ya (Zb O (qR rr (qR rr (qf (Zae 51 Yby .is) r1 r1 (qf (o_sub .t qi) r1 qz (qf (ZcP (sz:=1) 51 (.mk Yby kr) (by intro x;rfl) .is .t (by assumption) (by assumption)) r2 r1 (qO rr qZ)))))) V [6,5,4,3,2,1] [102,101,51,50,1,0] (fun _=>rfl) (fun _=>rfl) fun τ a w F O=>?_))
  try dsimp only [RS.sub,SF.sub,CF.sub,csub,Anc.sub,List.map,ZW,ZG] at O
  generalize τ 38=v38 at O
  rw [hnw,Yg,htk] at O
  refine Za (Ya (Zb O (qR rr (qg 3 102 r1 r1 (qa 102 r1 r1 (qf (Zy (sz:=1) (zs:=[.int .i64 0]) (r:=[(0,.tmp 41)]) (l:=[_]) Yby kr kr kr kr Z Z (.one Z .t one_int kr .nil) Z) r1 qz (qf (Z1 (sz:=1) (bs:=8) 50 (.mk' Yby kr kr) (by intro x;rfl) .is (.arr (l':=[(getC q e.1).val]) .t) (by simp only [Yb,Yp,Yx];omega) (by decide)) ⟨rfl,rfl,tv⟩ ⟨rfl,tv⟩ (qO rr qZ)))))) V [6,5,4,3,2,1] [102,101,51,50,1,0] (fun _=>rfl) (fun _=>rfl) fun τ a w F O=>?_))
  try dsimp only [RS.sub,SF.sub,CF.sub,csub,Anc.sub,List.map,Ze,xL,xM,Nat.reduceAdd,xD,xE,xT,xU,xC,xN,zCF,ldSF,ZW,ZG] at O
  generalize τ 43=v43 at O
  refine Za (Zf O (qg 1 102 r1 r1 (qa 102 r1 r1 (qO rr qZ))) V [5,4,3,2,1] [101,51,50,1,0] Z Z fun a w F O=>Zm (Za ?_))
  obtain ⟨F,O⟩:=O.nM [2,1,4,3,5] [101,1,0,51,50]
  exact ⟨(_,(t2),(st2),_,_,_,_),F,hC2,O,hmu⟩
 have hstop:¬ 0<i∧wt.length=0:=by simp only [YaY,Yh] at hc0;omega
 have hx:=hr.range
 have h0:i=0:=by omega
 rw [h0] at hr
 have hfin:out=Zbc t0:=by rw [← hk,hr.zero,YS (show st.length=0 by omega)];simp [Zbc,tList,stV]
 refine Yr (Zj (Zj (Zv (Za (Ya (rZ O (qR rr (qO rr qZ)) V [2] [51,50,1,0] fun O=>Yi ?_))))))
 obtain ⟨F,O⟩:=O.give 50 2 Z rfl
 refine ZA hG O Z (.tmp Z .nil) (.one (.sl (by rw [hfin]))) rfl
structure ZqV (q:List Cell) (t:Z5) (root:Int):Prop where
 rep:Rep kz q t root
 bal:Bal t
theorem ZnB (l:List Int):Zbc (Zlk (l.length+1) (l.map kp))=l:=by
 unfold Zbc
 rw [ZbQ _ _ (by simp),YaG]
 exact List.map_id' l
theorem ZoL (o:Option Nat) (room:Int) (q:List Cell) (root:Int) (t0:Z5) (hr0:Rep kz q t0 root) (hs:Zw t0≤1000000) (o2:Option Nat) (room2:Int) (q2:List Cell):FnG prog 187 2 [.agg [.is (arV o),.int .i64 root],.is (arV o2)] [arH o room q,arH o2 room2 q2] (.tup [.agg [.is (arV o2),.int .i64 (Zol room2 q2 (Zbc t0)).2.2],.int .i64 (Zol room2 q2 (Zbc t0)).2.1]) (fun _=>[arH o room q,arH o2 room2 (Zol room2 q2 (Zbc t0)).1]):=by
 refine FnG.mk func187 Z ntmps187 Z kr fun B F0 a w F V hG O=>Ya ?_
 refine Zb O (qx 101 r1 (qf (oH [.pointer none,.int .i64 0] 102) trivial qz (qI qZ))) V [5,4,2,1] [102,101,2,1,0] (fun _=>rfl) (fun _=>rfl) fun τ a w F O=>?_
 try dsimp only [RS.sub,SF.sub,CF.sub,csub,Anc.sub,List.map,zCF,ZW,Zx] at O
 generalize τ 2=v2,τ 4=v4 at O
 refine Za (Ya (rZ O (qR rr (qe 2 101 r1 r1 (qf (o_callG1 1 (ZlG o room q root t0 hr0 hs) func57 Z kr (Args.one (.pagg .t))) r1 r1 (qf (o_callG1 2 (ZpB o2 room2 q2 (Zbc t0)) func65 Z kr (Args.two .t .t)) r2 r1 (qf (o_extract .t Z) r1 qz (qf (o_extract .t Z) r1 qz (qf (oA 2 102 .is (.conv .t .agg)) r2 r1 (qO rr qZ)))))))) V [5,4] [102,2,1,0] fun O=>Yi ?_))
 refine ZiM hG O Z (.cl 102 true 2 Z Z (.tmp Z .nil)) (.two (.aggU Z Z) (.int Z)) Z rfl
theorem Zgg (x y:List Int):FnP prog 18 [.sl ZG x,.sl ZG y] (.bool (decide (x=y))):=by
 refine FnP.mk func18 Z ntmps18 Z fun B a w F V hfr O=>?_
 have hxl:=Sat.lenSl O (i:=0) rfl
 refine Ya (rZ O qB V [4,1,0] [0] fun O=>(Ya (Ya ?_)))
 refine rZ O (qR rr (qu Yby r1 (qR rr (qu Yby r1 (qf (o_neq .t .t) r2 qz qZ))))) V [10,4,1,0] [0] fun O=>?_
 refine Zd O Z (fun hc0=>?_) (fun hc0=>?_)
 ·have hg:false=decide (x=y):=by
    rw [Yab,Yh]
    intro h
    subst h
    simp at hc0
  refine Ya (rZ O qB V [4,1,0] [0] fun O=>(Yi (Zk ?_)))
  refine ZP hfr O Z Z Z (.bool hg)
 have hl:x.length=y.length:=by simp at hc0;omega
 refine Yf (Za (Ya (Ya (rZ O (qR rr (qu Yby r1 (qJ qZ))) V [13,12,4,1,0] [0] fun O=>Ye ?_))))
 obtain ⟨F,O⟩:=O.nM [13,12,1,0] [0]
 refine Zbx (σ:=Nat) (fun s=>(⟨[(0,.pv (.sl ZG x)),(1,.pv (.sl ZG y)),(12,.pv (.int .i64 x.length)),(13,.pv (.int .i64 s))],[(0,frame B)]⟩:En)) (fun s=>s≤x.length ∧ ∀ j,j<s→Nn x j=Nn y j) (fun s=>x.length - s) 0 O ⟨Yz _,fun j hj=>absurd hj (YR j)⟩ ?_
 clear O;intro i a w F hC O
 try dsimp only at hC
 try dsimp only at O
 obtain ⟨hi,hq⟩:=hC
 refine Ya (rZ O (qL r2) V [14,13,12,1,0] [0] fun O=>Ya ?_)
 refine Zd O Z (fun hc1=>?_) (fun hc1=>?_)
 ·have hil:i<x.length:=by simp at hc1;omega
  refine Yf (Za (Ya (Ye (Ya (rZ O (qR rr (qO rr qZ)) V [13,12,5,1,0] [0] fun O=>Ya ?_)))))
  refine Zq O (qR rr (qR rr (qy 1 Yby r2 (qf (oR false 1 .t) r1 qz (qR rr (qR rr (qy 1 Yby r2 (qf (oR false 1 .t) r1 qz (qf (o_neq .t .t) r2 qz qZ))))))))) V [24,13,12,1,0] [0] Z Z fun a w F O=>?_
  try dsimp only [List.map,xD,xE,xT,xU,ldSF] at O
  refine Za (Zd O Z (fun hc2=>?_) (fun hc2=>?_))
  ·have hg:false=decide (x=y):=by
     rw [Yab,Yh]
     intro h
     subst h
     simp at hc2
   refine Ya (rZ O qB V [13,12,4,1,0] [0] fun O=>(Yi (ZC (Zk (Zk (ZC (Zk ?_)))))))
   refine ZP hfr O Z Z Z (.bool hg)
  rw [Yg] at hc2
  have hqi:Nn x i=Nn y i:=by simpa using hc2
  refine Yf (Zm (Za (rZ O (qp r1 (qR rr qZ)) V [13,12,1,0] [0] fun O=>?_)))
  replace O:=O.ent (i:=13) (s':=.pv (.int .i64 ((i+1:Nat):Int))) Z (.int (Zl ow))
  obtain ⟨F,O⟩:=O.nM [13,12,1,0] [0]
  exact ⟨i+1,F,⟨by omega,fun j hj=>by rcases YG (YN hj) with h | h;exact hq j h;rw [h];exact hqi⟩,O,by omega⟩
 have hg:true=decide (x=y):=by
   rw [Yab,Yj]
   exact ZaD hl fun j hj=>hq j (by simp at hc1;omega)
 refine Yr (Zj (Zj (Zv (Za (Ya (rZ O qB V [4] [0] fun O=>Yi ?_))))))
 refine ZP hfr O Z Z Z (.bool hg)
def ZfW (l:List Int):Prop:=(∀ x ∈ l,1≤x∧x≤1048575)∧l.Nodup
instance (l:List Int):Decidable (ZfW l):=by unfold ZfW;exact inferInstance
theorem ZfW.take {l:List Int} (h:ZfW l) (i:Nat):ZfW (l.take i):=⟨fun x hx=>h.1 x (YaZ hx),h.2.sublist (List.take_sublist i l)⟩
def leI (x y:Int):Bool:=decide (x≤y)
theorem ZlK {a b:List Int} : a.mergeSort leI=b.mergeSort leI ↔ a.Perm b:=by
 constructor
 ·intro h
  exact (YaD a leI).symm.trans (h ▸ YaD b leI)
 ·intro h
  have hs:∀ l:List Int,List.Pairwise (fun x y=>x≤y) (l.mergeSort leI):=fun l=>by
   have:=Ya5 (le:=leI) (fun a b c h1 h2=>by simp [leI] at *;omega) (fun a b=>by simp [leI];omega) l
   exact this.imp fun h=>by simpa [leI] using h
  exact List.Perm.eq_of_pairwise (fun x y _ _ h1 h2=>Int.le_antisymm h1 h2) (hs a) (hs b) (((YaD a leI).trans h).trans (YaD b leI).symm)
def ZlN (a b:List Int):Prop:=ZfW a∧ZfW b∧a.Perm b
instance (a b:List Int):Decidable (ZlN a b):=by unfold ZlN;exact inferInstance
def Zii:Go.Shelf.Ren:=⟨fun | 189=>92 | 125=>152 | 257=>154 | 128=>226 | 129=>227 | 294=>228 | 295=>229 | 296=>230 | 297=>231 | 298=>232 | 299=>233 | 216=>213 | 300=>234 | 301=>235 | 328=>266 | 329=>262 | 330=>263 | 331=>267 | 332=>268 | 215=>175 | 343=>278 | n=>n,fun | 28=>37 | 3=>3 | 46=>219 | 0=>0 | 51=>274 | 53=>262 | 4=>4 | 183=>268 | 182=>267 | 131=>105 | 5=>5 | 9=>9 | 218=>301 | 222=>305 | 228=>314 | 229=>315 | n=>n,fun  | n=>n⟩
theorem Zjo:Lays.n189 prog Zii where
 mixed:=by kernel_rfl
 f125:=func152.trans (Yaf some kr)
 f128:=func226.trans (Yaf some kr)
 f129:=func227.trans (Yaf some kr)
 f189:=func92.trans (Yaf some kr)
 f215:=func175.trans (Yaf some kr)
 f216:=func213.trans (Yaf some kr)
 f257:=func154.trans (Yaf some kr)
 f294:=func228.trans (Yaf some kr)
 f295:=func229.trans (Yaf some kr)
 f296:=func230.trans (Yaf some kr)
 f297:=func231.trans (Yaf some kr)
 f298:=func232.trans (Yaf some kr)
 f299:=func233.trans (Yaf some kr)
 f300:=func234.trans (Yaf some kr)
 f301:=func235.trans (Yaf some kr)
 f328:=func266.trans (Yaf some kr)
 f329:=func262.trans (Yaf some kr)
 f330:=func263.trans (Yaf some kr)
 f331:=func267.trans (Yaf some kr)
 f332:=func268.trans (Yaf some kr)
 f343:=func278.trans (Yaf some kr)
 t0:=underlying0
 a0:=Tryz.isAgg0
 z0:=Tryz.sizeOf0
 v0:=Tryz.zeroValue0
 t3:=YbA
 a3:=Tryz.isAgg3
 z3:=Tryz.sizeOf3
 v3:=Tryz.zeroValue3
 t4:=underlying4
 a4:=Tryz.isAgg4
 z4:=Tryz.sizeOf4
 v4:=Tryz.zeroValue4
 t5:=underlying5
 a5:=Tryz.isAgg5
 z5:=Tryz.sizeOf5
 v5:=Tryz.zeroValue5
 t9:=underlying9
 a9:=Tryz.isAgg9
 z9:=Tryz.sizeOf9
 v9:=Tryz.zeroValue9
 t28:=Yby
 a28:=Tryz.isAgg37
 z28:=Tryz.sizeOf37
 v28:=Tryz.zeroValue37
 t46:=YbF
 a46:=Tryz.isAgg219
 z46:=Tryz.sizeOf219
 v46:=Tryz.zeroValue219
 t51:=underlying274
 a51:=Tryz.isAgg274
 z51:=Tryz.sizeOf274
 v51:=Tryz.zeroValue274
 t53:=underlying262
 a53:=Tryz.isAgg262
 z53:=Tryz.sizeOf262
 v53:=Tryz.zeroValue262
 t131:=underlying105
 a131:=Tryz.isAgg105
 z131:=Tryz.sizeOf105
 v131:=Tryz.zeroValue105
 t182:=underlying267
 a182:=Tryz.isAgg267
 z182:=Tryz.sizeOf267
 v182:=Tryz.zeroValue267
 t183:=underlying268
 a183:=Tryz.isAgg268
 z183:=Tryz.sizeOf268
 v183:=Tryz.zeroValue268
 t218:=underlying301
 a218:=Tryz.isAgg301
 z218:=Tryz.sizeOf301
 v218:=Tryz.zeroValue301
 t222:=underlying305
 a222:=Tryz.isAgg305
 z222:=Tryz.sizeOf305
 v222:=Tryz.zeroValue305
 t228:=underlying314
 a228:=Tryz.isAgg314
 z228:=Tryz.sizeOf314
 v228:=Tryz.zeroValue314
 t229:=underlying315
 a229:=Tryz.isAgg315
 z229:=Tryz.sizeOf315
 v229:=Tryz.zeroValue315
theorem Zlu (w:World):Calls prog 92 #[.slice none 0 0] w (fun e w'=>e = .returned (.tuple #[])∧w' = w):=
 Go.calls_of_every_depth fun D=>Go.Proofs.AnyS.slices_Sort_int_none_in Zjo D none 0 w
theorem Zjq {w:World} {y:Ys} : ∀ {l:List Int} {xs:List Value},PVs (l.flatMap ZG) xs w y→xs=l.map (Value.int .i64) ∧ ∀ x ∈ l,inR .i64 x
 | [],[],_=>⟨rfl,fun x hx=>by cases hx⟩
 | [],_ :: _,h=>h.elim
 | x :: l,[],h=>h.elim
 | x :: l,v :: xs,h=>by
  have h1:v = .int .i64 x∧inR .i64 x:=h.1.2
  obtain ⟨h2,h3⟩:=Zjq (l:=l) (xs:=xs) h.2
  exact ⟨by rw [h1.1,h2];rfl,fun z hz=>by rcases Yo.1 hz with rfl | hz;exact h1.2;exact h3 z hz⟩
theorem Zfb {w:World} {y:Ys} : ∀ {l:List Int},(∀ x ∈ l,inR .i64 x)→PVs (l.flatMap ZG) (l.map (Value.int .i64)) w y
 | [],_=>trivial
 | x :: l,h=>⟨⟨rfl,rfl,h x (by simp)⟩,Zfb fun z hz=>h z (by simp [hz])⟩
theorem ZnX {l:List Int} {j:Nat} (hj:j<l.length):(l.toArray)[j]! = l[j]:=by simp [hj]
theorem ZiD {w:World} {g n:Nat} {d:List Int} {os:Array Obj} {cur:Array Value} {e:TypeId} (hg:w.heap[g]? = some (.cells cur e (0,0))) (b:Nat) (hb:b<w.heap.size) :
  (Go.Sort.grow (Go.Sort.putRow (Value.int .i64) (Go.Sort.ahead w n) g 0 d.toArray) os).heap[b]? = if b=g then some (.cells (Go.Sort.putCells (Value.int .i64) 0 d.toArray cur) e (0,0)) else w.heap[b]?:=by
 unfold Go.Sort.grow Go.Sort.putRow Go.Sort.mapBlock Go.Sort.ahead
 simp only
 rw [Array.getElem?_append_left (by simpa using hb),Array.getElem?_modify]
 by_cases h:g=b
 ·subst h
  rw [Yd rfl,Yd rfl,hg];rfl
 ·rw [Yc h,Yc (fun e=>h e.symm)]
theorem ZnV {cur:Array Value} {d:List Int} (h:d.length≤cur.size):(Go.Sort.putCells (Value.int .i64) 0 d.toArray cur).toList.take d.length=d.map (Value.int .i64):=by
 apply List.ext_getElem
 ·simp [Go.Sort.putCells];omega
 ·intro i h1 h2
  have hi:i<d.length:=by simpa using h2
  simp [Go.Sort.putCells,hi]
theorem Zkl (v:Value) (l:List Int) (hlm:l.length≤1000000):FnG prog 92 1 [.is v] [ZJ 3 1 ZG l v] (.tup []) (fun _=>[ZJ 3 1 ZG (l.mergeSort leI) v]):=fun w F vs hw hle hvs hpr=>by
 match vs,hvs with
 | [u],hvs=>
  have hu:u=v:=hvs.1.1
  subst hu
  obtain ⟨xs,⟨hxl,hx⟩,hp,hf⟩:=hpr 0 _ rfl
  rcases hx with ⟨rfl,h0⟩ | ⟨g,cap,cur,rfl,_,hg,hn,hcap,hcs,hct⟩
  ·have hl:l = []:=YS h0
   subst hl
   refine (Zlu w).mono ?_
   rintro e w' ⟨rfl,rfl⟩
   refine ⟨.tuple #[],F,rfl,hw,⟨rfl,rfl,rfl,Yw _,fun _ _ _=>rfl,fun _ _=>rfl,fun n hn b hb=>.inl ⟨n,hn,hb⟩⟩,hle,⟨[],rfl,tv⟩,fun i h hi=>?_⟩
   match i,hi with
   | 0,hi=>simp at hi;subst hi;exact ⟨xs,⟨hxl,.inl ⟨rfl,rfl⟩⟩,by simpa using hp,hf⟩
  ·have hgs:g<w.heap.size:=(YU.1 hg).1
   obtain ⟨hxe,hin⟩:=Zjq hp
   have hcl:l.length≤cur.size:=by rw [hcs];omega
   have hbig:l.length<4611686018427387904:=by omega
   have hcur:∀ j (hj:j<l.length),cur[j]? = some (.int .i64 l[j]):=fun j hj=>by
    have h1:(cur.toList.take (l.length*1))[j]? = (l.map (Value.int .i64))[j]?:=by rw [hct,hxe]
    rw [List.getElem?_take_of_lt ow] at h1
    simpa [hj] using h1
   have hH:Go.Sort.Holds (Value.int .i64) w g 0 l.toArray:=fun j hj=>by
    have hj':j<l.length:=by simpa using hj
    refine ⟨?_,?_⟩
    ·rw [ZnX hj',Y9,Za5 hg];exact hcur j hj'
    ·simp [World.frozen?,hg]
   have hcalls:Calls prog 92 #[.slice (some ⟨g,0,none⟩) l.length cap] w fun e w'=>e = .returned (.tuple #[]) ∧ ∃ n os,w' = Go.Sort.grow (Go.Sort.putRow (Value.int .i64) (Go.Sort.ahead w n) g 0 (l.mergeSort leI).toArray) os:=Go.Proofs.Any.slices_Sort_int Zjo g 0 cap l w hH hgs hbig
   refine hcalls.mono ?_
   rintro e w' ⟨rfl,n,os,rfl⟩
   have hsl:(l.mergeSort leI).length=l.length:=List.length_mergeSort l
   have hheap:=fun b hb=>ZiD (n:=n) (d:=l.mergeSort leI) (os:=os) hg b hb
   have hsz:(Go.Sort.grow (Go.Sort.putRow (Value.int .i64) (Go.Sort.ahead w n) g 0 (l.mergeSort leI).toArray) os).heap.size=w.heap.size+os.size:=by simp [Go.Sort.ahead]
   have hfg:F 1 g:=(hf g).2 rfl
   have hst:Stp (List.range' 1 1) w F (Go.Sort.grow (Go.Sort.putRow (Value.int .i64) (Go.Sort.ahead w n) g 0 (l.mergeSort leI).toArray) os) F:=
    ⟨rfl,rfl,rfl,by rw [hsz];omega,fun b hb hn=>by
     rw [hheap b hb,Yc (fun e=>by subst e;exact hn 1 (by simp) hfg)],fun _ _=>rfl,fun n hn b hb=>.inl ⟨n,hn,hb⟩⟩
   refine ⟨.tuple #[],F,rfl,⟨hw.dis,fun n b hb=>by rw [hsz];have:=hw.bd n b hb;omega⟩,hst,hle,⟨[],rfl,tv⟩,fun i h hi=>?_⟩
   match i,hi with
   | 0,hi=>
    simp only [Ya6,Y0] at hi
    subst hi
    refine ⟨(l.mergeSort leI).map (Value.int .i64),⟨by simp,.inr ⟨g,cap,_,by rw [hsl],Yz _,(hheap g hgs).trans (Yd Z),by omega,hcap,by simp [Go.Sort.putCells,hcs],?_⟩⟩,Zfb fun x hx=>hin x ((YaD l leI).mem_iff.1 hx),hf⟩
    rw [Nat.mul_one];exact ZnV ow
theorem ZaM {α:Type} [Inhabited α] {p:α→Bool} {l:List α} {j:Nat} (h:j<l.length):(l.take (j+1)).filter p=(l.take j).filter p++if p (Nn l j)=true then [Nn l j] else []:=by
 rw [Z9 h,YaJ]
 congr 1
 by_cases e:p (Nn l j)=true
 ·rw [Yd e];simp [e]
 ·rw [Yc e];simp at e;simp [e]
def Zbq {α:Type} [Inhabited α] (p:α→Bool) (l:List α):Int:=match l.findIdx? p with
 | some i=>i
 | none=>-1
theorem Zir {α:Type} [Inhabited α] {p:α→Bool} {l:List α} (h:∀ k,k<l.length→p (Nn l k)=false):Zbq p l = -1:=by
 unfold Zbq
 have:l.findIdx? p=none:=List.findIdx?_eq_none_iff.2 fun x hx=>by
  obtain ⟨k,hk,rfl⟩:=List.mem_iff_getElem.1 hx
  rw [← ZE hk];exact h k hk
 rw [this]
theorem ZkP {α:Type} [Inhabited α] {p:α→Bool} {l:List α} {i:Nat} (hi:i<l.length) (h:p (Nn l i)=true) (h2:∀ k,k<i→p (Nn l k)=false):Zbq p l=i:=by
 unfold Zbq
 have:l.findIdx? p=some i:=List.findIdx?_eq_some_iff_getElem.2 ⟨hi,by rw [← ZE hi];exact h,fun k hk=>by rw [← ZE ow,h2 k hk];decide⟩
 rw [this]
theorem Zio {α:Type} [Inhabited α] (p:α→Bool) (l:List α):(Zbq p l = -1 ∧ ∀ k,k<l.length→p (Nn l k)=false) ∨ ∃ i:Nat,Zbq p l=i∧i<l.length∧p (Nn l i)=true ∧ ∀ k,k<i→p (Nn l k)=false:=by
 cases h:l.findIdx? p with
 | none=>
  left
  refine ⟨by unfold Zbq;rw [h],fun k hk=>?_⟩
  have:=List.findIdx?_eq_none_iff.1 h l[k] (Ybj hk)
  rw [ZE hk];exact this
 | some i=>
  right
  obtain ⟨h1,h2,h3⟩:=List.findIdx?_eq_some_iff_getElem.1 h
  refine ⟨i,by unfold Zbq;rw [h],h1,by rw [ZE h1];exact h2,fun k hk=>?_⟩
  rw [ZE ow]
  simpa using h3 k hk
theorem Zf0:inR .i64 0:=by show IntKind.min .i64≤0∧0≤IntKind.max .i64;decide
theorem Zj7 (l:List Int) (hl:l.length≤1000000):FnG prog 91 1 [.sl ZG l] [.star []] (PV.one) (fun v=>[ZJ 3 1 ZG l v]):=by
 refine FnG.mk func91 Z ntmps91 Z kr fun B F0 a w F V hG O=>?_
 obtain ⟨F,O⟩:=O.nM [0] [0]
 refine Ya (rZ O (qC qZ) V [2,0] [0] fun O=>(Ya (Ya ?_)))
 refine Zf O (qR rr (qf (Zcf Yby .t) r1 qz qZ)) V [4,2,0] [0] Z Z fun a w F O=>?_
 obtain ⟨β4,hβ4,O⟩:=O.pickBool 4 rfl
 obtain ⟨F,O⟩:=O.nM [4,2,0] [0]
 refine Za (Zd O Z (fun hc0=>?_) (fun hc0=>?_))
 ·have hg:l = []:=hβ4 hc0
  refine Ya (rZ O (qC qZ) V [2,0] [0] fun O=>(Yi (Zk ?_)))
  have O:=O.fresh 1 rfl
  have O:=O.turn 1 Z (ZaI (T:=3) (sz:=1) (R:=ZG))
  have O:=O.turn 1 Z (r':=RS.hp (ZJ 3 1 ZG l (.slice none 0 0))) (fun _ _ _ _ h=>by rw [hg];exact h)
  refine Zdd (h':=fun v=>ZJ 3 1 ZG l v) hG O Z (.tmp Z .nil) (.one .one) rfl
 have hg:l = [] ++ l:=rfl
 refine Yf (Za (Ya (Zb O (qf (Zbv (R:=ZG) (sz:=1) 101 Yby kr) trivial qz (qR rr (qf (Z1 (sz:=1) (bs:=8) 101 (.mk' Yby kr kr) (by intro x;rfl) .same (.sl .t) (by simp only [Yb,Yx];omega) (by decide)) ⟨rfl,rfl,tv⟩ ⟨rfl,tv⟩ (qO rr qZ)))) V [2] [101,0] (fun _=>rfl) (fun _=>rfl) fun τ a w F O=>?_)))
 try dsimp only [RS.sub,SF.sub,CF.sub,csub,Anc.sub,List.map,Ze,xL,xM,Nat.reduceAdd,xD,xE,xT,xU,xC,xN,zCF,ZG] at O
 generalize τ 7=v7 at O
 refine Za (Yi ?_)
 obtain ⟨F,O⟩:=O.rename 101 1 Z rfl
 have O:=O.turn 1 Z (r':=RS.hp (ZJ 3 1 ZG l v7)) (fun _ _ _ _ h=>by rw [hg];exact h)
 refine Zdd (h':=fun v=>ZJ 3 1 ZG l v) hG O Z (.tmp Z .nil) (.one .one) rfl
def ZL {α:Type} [DecidableEq α]:List α→List α
 | []=>[]
 | [x]=>[x]
 | x :: y :: l=>if x=y then ZL (y :: l) else x :: ZL (y :: l)
theorem Zcp {α:Type} [DecidableEq α] (a b:α):∀ l:List α,ZL (l ++ [a,b])=if a=b then ZL (l ++ [a]) else ZL (l ++ [a]) ++ [b]
 | []=>by
  show (if a=b then [b] else a :: [b])=if a=b then [a] else [a] ++ [b]
  split
  ·rename_i h;rw [h]
  ·rfl
 | [x]=>by
  have ih:=Zcp a b []
  show (if x=a then ZL ([] ++ [a,b]) else x :: ZL ([] ++ [a,b]))=if a=b then (if x=a then ZL ([] ++ [a]) else x :: ZL ([] ++ [a])) else (if x=a then ZL ([] ++ [a]) else x :: ZL ([] ++ [a])) ++ [b]
  rw [ih]
  by_cases h1:x=a <;> by_cases h2:a=b <;> simp [h1,h2]
 | x :: y :: l=>by
  have ih:=Zcp a b (y :: l)
  show (if x=y then ZL (y :: l ++ [a,b]) else x :: ZL (y :: l ++ [a,b]))=if a=b then (if x=y then ZL (y :: l ++ [a]) else x :: ZL (y :: l ++ [a])) else (if x=y then ZL (y :: l ++ [a]) else x :: ZL (y :: l ++ [a])) ++ [b]
  rw [ih]
  by_cases h1:x=y <;> by_cases h2:a=b <;> simp [h1,h2]
theorem ZdW {α:Type} [DecidableEq α] [Inhabited α] {l:List α} {p:Nat} (h1:1≤p) (h2:p<l.length):ZL (l.take (p+1))=if Nn l (p - 1)=Nn l p then ZL (l.take p) else ZL (l.take p) ++ [Nn l p]:=by
 obtain ⟨q,rfl⟩:∃ q,p=q+1:=⟨p - 1,by omega⟩
 rw [Z9 h2,Z9 (show q<l.length by omega),Ym]
 exact Zcp _ _ _
theorem ZeE {α:Type} [DecidableEq α]:∀ {l:List α},l.length≤1→ZL l=l
 | [],_=>rfl
 | [x],_=>rfl
 | x :: y :: l,h=>by simp at h
theorem ZoF (v:Value) (l:List Int) (hll:l.length≤1000000):FnG prog 212 1 [.is v] [ZJ 3 1 ZG l v] (PV.one) (fun v=>[ZJ 3 1 ZG (ZL l) v]):=by
 refine FnG.mk func212 Z ntmps212 Z kr fun B F0 a w F V hG O=>?_
 replace O:=O.turn 1 Z (r':=.ob (.val v) (ZJ 3 1 ZG l)) (fun _ _ _ _ h=>h)
 refine Ya (rZ O (qC qZ) V [2,0] [1,0] fun O=>(Ya (Ya ?_)))
 refine rZ O (qR rr (qf (Zae 1 Yby .is) r1 r1 (qf (ZaG .t qi) r1 qz qZ))) V [8,2,0] [1,0] fun O=>?_
 refine Zd O Z (fun hc0=>?_) (fun hc0=>?_)
 ·have hg:(ZL l)=l:=ZeE (by simp at hc0;omega)
  refine Ya (rZ O (qR rr (qO rr qZ)) V [2,0] [1,0] fun O=>(Yi (Zk ?_)))
  have O:=O.turn 1 Z (r':=RS.hp (ZJ 3 1 ZG (ZL l) v)) (fun _ _ _ _ h=>by rw [hg];exact h)
  refine Zdd (h':=fun v=>ZJ 3 1 ZG (ZL l) v) hG O Z (.tmp Z .nil) (.one .one) rfl
 have hl2:2≤l.length:=by simp at hc0;omega
 refine Yf (Za (Ya (Ya (rZ O (qI qZ) V [3,2,0] [1,0] fun O=>Ye ?_))))
 refine Zo (σ:=Nat) [0,2] [0,1] (fun s=>[(3,.pv (.int .i64 (s:Int)))]) (fun s=>[]) (fun s=>1≤s∧s≤l.length∧ZL (l.take s)=l.take s) (fun s=>l.length - s) (1) O ⟨rfl,rfl,rfl,tv⟩ ⟨rfl,rfl,tv⟩ ⟨by omega,by omega,ZeE (by rw [Yk];omega)⟩ ?_
 clear O;intro k a w F hC O
 try dsimp only at hC
 obtain ⟨F,O⟩:=O.nM [3,2,0] [1,0]
 try dsimp only at O
 obtain ⟨hk1,hkl,hkc⟩:=hC
 have hkw:IntKind.wrap .i64 ((k:Int) - 1)=(k:Int) - 1:=Zc ow
 refine Ya (Ya (rZ O (qR rr (qR rr (qf (Zae 1 Yby .is) r1 r1 (qL r2)))) V [13,3,2,0] [1,0] fun O=>?_))
 refine Zd O Z (fun hc1=>?_) (fun hc1=>?_)
 ·have hil:k<l.length:=by simp at hc1;omega
  have hst:=ZdW (l:=l) hk1 hil
  have hy0:(IntKind.wrap .i64 ((k:Int) - 1)).toNat=k - 1:=by rw [hkw];omega
  refine Yf (Za (Ya (Ye (Ya (Zq O (qR rr (qR rr (qf (o_indexAddr_row (sz:=1) 1 (.mk Yby kr) .is .t ow ow (by rfl)) r2 r1 (qf (Zn (ag:=false) (sz':=1) (sz:=1) 1 .t (by intro x;rfl) ow kr kr kr) r1 r1 (qR rr (qR rr (qf (o_sub .t qi) r1 qz (qf (o_indexAddr_row (sz:=1) 1 (.mk Yby kr) .is .t (by rw [hkw];omega) (by rw [hkw];omega) (by rfl)) r2 r1 (qf (Zn (ag:=false) (sz':=1) (sz:=1) 1 .t (by intro x;rfl) (by rw [hkw];omega) kr kr kr) r1 r1 (qf (o_eql .t .t) r2 qz qZ)))))))))) V [25,3,2,0] [1,0] Z Z fun a w F O=>?_)))))
  try dsimp only [List.map,xD,xE,xT,xU,ldSF,ZG] at O
  try simp only [Yg] at O
  refine Za (Zd O Z (fun hc2=>?_) (fun hc2=>?_))
  ·have heq:Nn l (k - 1)=Nn l k:=by rw [hy0] at hc2;simp at hc2;exact hc2.symm
   rw [Yd heq,hkc] at hst
   have hst0:=hst.symm
   refine Ya (rZ O (qR rr (qR rr (qf (Zib (sz:=1) 1 (.mk Yby kr) .is .t ow ow) r2 r1 (qO rr qZ)))) V [4,3,2,0] [1,0] fun O=>(Ya (Ya ?_)))
   refine rZ O (qI qZ) V [5,4,3,2,0] [1,0] fun O=>Ye ?_
   have hC0:1≤1∧1≤l.length - k∧k≤k∧k≤k+1 - 1∧l.length=l.length∧l.take k=ZL (l.take (k+1)) ∧ ∀ q,k+1 - 1≤q→q<l.length→Nn l q=Nn l q:=⟨by omega,by omega,by omega,by omega,rfl,hst0,fun q _ _=>rfl⟩
   refine Zo (σ:=Nat×Nat×List Int) [0,2,4] [0] (fun s=>[(3,.pv (.int .i64 (s.1:Int))),(5,.pv (.int .i64 (s.2.1:Int)))]) (fun s=>[(1,.ob (.val v) (ZJ 3 1 ZG s.2.2))]) (fun s=>1≤s.2.1∧s.2.1≤l.length - k∧k≤s.1∧s.1≤k+s.2.1 - 1∧s.2.2.length=l.length∧s.2.2.take s.1=ZL (l.take (k+s.2.1)) ∧ ∀ q,k+s.2.1 - 1≤q→q<l.length→Nn s.2.2 q=Nn l q) (fun s=>l.length - s.2.1) ((k),(1),(l)) O ⟨rfl,rfl,rfl,rfl,rfl,tv⟩ ⟨rfl,rfl,tv⟩ hC0 ?_
   clear O;intro s a w F hC O
   obtain ⟨k1,j,l1⟩:=s
   try dsimp only at hC
   obtain ⟨F,O⟩:=O.nM [5,4,3,2,0] [1,0]
   try dsimp only at O
   obtain ⟨hj1,hjk,hkk,hkj,hl1,htk,hrest⟩:=hC
   have hjw:IntKind.wrap .i64 ((j:Int) - 1)=(j:Int) - 1:=Zc ow
   refine Ya (Ya (rZ O (qR rr (qR rr (qf (ZlI 1 Yby .t ow) r1 r1 (qL r2)))) V [32,5,4,3,2,0] [1,0] fun O=>?_))
   refine Zd O Z (fun hc3=>?_) (fun hc3=>?_)
   ·have hjl:k+j<l.length:=by simp at hc3;omega
    have hx1:(Nn l1 (((k:Int)).toNat+((j:Int)).toNat))=Nn l (k+j):=by rw [Yg,Yg];exact hrest _ ow hjl
    have hx0:Nn l1 (((k:Int)).toNat+(IntKind.wrap .i64 ((j:Int) - 1)).toNat)=Nn l (k+j - 1):=by rw [hjw,show ((k:Int)).toNat+((j:Int) - 1).toNat=k+j - 1 by omega];exact hrest _ ow ow
    have hstp:=ZdW (l:=l) (p:=k+j) ow hjl
    refine Yf (Za (Ya (Ye (Ya (Zq O (qR rr (qR rr (qf (o_indexAddr_sub (sz:=1) 1 (.mk Yby kr) .t .t ow ow (by rfl)) r2 r1 (qf (Zn (ag:=false) (sz':=1) (sz:=1) 1 .t (by intro x;rfl) ow kr kr kr) r1 r1 (qR rr (qR rr (qf (o_sub .t qi) r1 qz (qf (o_indexAddr_sub (sz:=1) 1 (.mk Yby kr) .t .t (by rw [hjw];omega) (by rw [hjw];omega) (by rfl)) r2 r1 (qf (Zn (ag:=false) (sz':=1) (sz:=1) 1 .t (by intro x;rfl) (by rw [hjw];omega) kr kr kr) r1 r1 (qf (o_neq .t .t) r2 qz qZ)))))))))) V [44,5,4,3,2,0] [1,0] Z Z fun a w F O=>?_)))))
    try dsimp only [List.map,xD,xE,xT,xU,ldSF,ZG] at O
    try simp only [Yg] at O
    refine Za (Zd O Z (fun hc4=>?_) (fun hc4=>?_))
    ·have hne:¬ Nn l (k+j - 1)=Nn l (k+j):=by rw [← hx1,← hx0];simp at hc4 ⊢;exact fun e=>hc4 e.symm
     rw [Yc hne] at hstp
     obtain ⟨i2,hi2e⟩:∃ i2,i2=k1+1:=⟨_,rfl⟩
     have hi2:IntKind.wrap .i64 ((k1:Int)+1)=(i2:Int):=by rw [hi2e];exact Zl ow
     obtain ⟨l2,hl2e⟩:∃ l2,l2=l1.set k1 (Nn l1 (k+j)):=⟨_,rfl⟩
     have hx1b:Nn l1 (k+j)=Nn l (k+j):=hrest _ ow hjl
     have hC2:1≤j+1∧j+1≤l.length - k∧k≤i2∧i2≤k+(j+1) - 1∧l2.length=l.length∧l2.take i2=ZL (l.take (k+(j+1))) ∧ ∀ q,k+(j+1) - 1≤q→q<l.length→Nn l2 q=Nn l q:=⟨by omega,by omega,by omega,by omega,by rw [hl2e,YE];exact hl1,by rw [hl2e,hi2e,Z9 (by rw [YE];omega),List.take_set_of_le (Yw _),htk,ZE (by rw [YE];omega),List.getElem_set_self,hx1b];exact hstp.symm,fun q hq hq2=>by rw [hl2e,ZE (by rw [YE];omega),List.getElem_set_ne ow,← ZE ow];exact hrest q ow hq2⟩
     refine Ya (Zf O (qR rr (qR rr (qR rr (qR rr (qf (o_indexAddr_sub (sz:=1) 1 (.mk Yby kr) .t .t ow ow (by rfl)) r2 r1 (qf (Zn (ag:=false) (sz':=1) (sz:=1) 1 .t (by intro x;rfl) ow kr kr kr) r1 r1 (qf (o_indexAddr_row (sz:=1) 1 (.mk Yby kr) .is .t ow ow (by rfl)) r2 r1 (qf (ZhU (R:=ZG) (sz:=1) (v:=(Nn l1 (((k:Int)).toNat+((j:Int)).toNat))) 1 .t (by intro x;rfl) ow .t Z one_int kr) r2 r1 qZ)))))))) V [5,4,3,2,0] [1,0] Z Z fun a w F O=>?_)
     try simp only [Yg] at O
     rw [← hl2e] at O
     refine Za (Zf O (qR rr (qp r1 (qO rr qZ))) V [5,4,3,2,0] [1,0] Z Z fun a w F O=>Zm (Za ?_))
     refine rZ O (qR rr (qp r1 (qO rr qZ))) V [5,4,3,2,0] [1,0] fun O=>?_
     have hmu:l.length - (j+1)<l.length - j:=by omega
     replace O:=O.ent (i:=3) (s':=.pv (.int .i64 (i2:Int))) Z (.int hi2)
     replace O:=O.ent (i:=5) (s':=.pv (.int .i64 ((j+1:Nat):Int))) Z (.int (Zl ow))
     obtain ⟨F,O⟩:=O.nM [4,2,0,5,3] [0,1]
     exact ⟨((i2),(j+1),(l2)),F,hC2,O,hmu⟩
    have heq2:Nn l (k+j - 1)=Nn l (k+j):=by rw [← hx1,← hx0];simp at hc4 ⊢;exact hc4.symm
    rw [Yd heq2] at hstp
    obtain ⟨i2,hi2e⟩:∃ i2,i2=k1:=⟨_,rfl⟩
    have hi2:(k1:Int)=(i2:Int):=by rw [hi2e]
    obtain ⟨l2,hl2e⟩:∃ l2,l2=l1:=⟨_,rfl⟩
    rw [← hl2e] at O
    have hC2:1≤j+1∧j+1≤l.length - k∧k≤i2∧i2≤k+(j+1) - 1∧l2.length=l.length∧l2.take i2=ZL (l.take (k+(j+1))) ∧ ∀ q,k+(j+1) - 1≤q→q<l.length→Nn l2 q=Nn l q:=⟨by omega,by omega,by omega,by omega,by rw [hl2e];exact hl1,by rw [hl2e,hi2e,htk];exact hstp.symm,fun q hq hq2=>by rw [hl2e];exact hrest q ow hq2⟩
    refine Yf (Zm (Za (rZ O (qR rr (qp r1 (qO rr qZ))) V [5,4,3,2,0] [1,0] fun O=>?_)))
    have hmu:l.length - (j+1)<l.length - j:=by omega
    replace O:=O.ent (i:=3) (s':=.pv (.int .i64 (i2:Int))) Z (.int hi2)
    replace O:=O.ent (i:=5) (s':=.pv (.int .i64 ((j+1:Nat):Int))) Z (.int (Zl ow))
    obtain ⟨F,O⟩:=O.nM [4,2,0,5,3] [0,1]
    exact ⟨((i2),(j+1),(l2)),F,hC2,O,hmu⟩
   have hjl:k+j=l.length:=by simp at hc3;omega
   have hg:(ZL l)=(l1.take k1++List.replicate (l1.length - k1) (0:Int)).take k1:=by rw [List.take_append_of_le_length (by rw [Yk];omega),YaQ,Nat.min_self,htk,hjl,YM]
   refine Yr (Zj (Zj (Zv (Za (Ya (rZ O (qR rr (qR rr (qf (Zib (sz:=1) 1 (.mk Yby kr) .is .t ow ow) r2 r1 (qf (Zi3 (R:=ZG) (z:=(0:Int)) (zs:=[.int .i64 0]) 1 Yby kr Z Z (fun _ _=>⟨⟨rfl,rfl,Zf0⟩,tv⟩) (by intro x;rfl) .t (by simp;omega)) r1 r1 qZ)))) V [3,2,0] [1,0] fun O=>Ya ?_))))))
   refine Zb O (qR rr (qR rr (qf (ZcP (sz:=1) 1 (.mk Yby kr) (by intro x;rfl) .is .t ow (by simp;omega)) r2 r1 (qO rr qZ)))) V [3,2,0] [1,0] (fun _=>rfl) (fun _=>rfl) fun τ a w F O=>?_
   try dsimp only [RS.sub,SF.sub,CF.sub,csub,Anc.sub,List.map,ZG] at O
   generalize τ 59=v59 at O
   refine Za (Yi (ZC (Zk (Zk (ZC (Zk ?_))))))
   have O:=O.turn 1 Z (r':=RS.hp (ZJ 3 1 ZG (ZL l) v59)) (fun _ _ _ _ h=>by rw [hg];exact h)
   refine Zdd (h':=fun v=>ZJ 3 1 ZG (ZL l) v) hG O Z (.tmp Z .nil) (.one .one) rfl
  have hne:¬ Nn l (k - 1)=Nn l k:=by rw [hy0] at hc2;simp at hc2;exact fun e=>hc2 e.symm
  rw [Yc hne] at hst
  refine Yf (Zm (Za (rZ O (qR rr (qp r1 (qO rr qZ))) V [3,2,0] [1,0] fun O=>?_)))
  replace O:=O.ent (i:=3) (s':=.pv (.int .i64 ((k+1:Nat):Int))) Z (.int (Zl ow))
  obtain ⟨F,O⟩:=O.nM [2,0,3] [1,0]
  exact ⟨(k+1),F,⟨by omega,by omega,by rw [hst,hkc,← Z9 hil]⟩,O,by omega⟩
 have hg:(ZL l)=l:=by rw [show k=l.length by simp at hc1;omega,YM] at hkc;exact hkc
 refine Yr (Zj (Zj (Zv (Za (Ya (rZ O (qR rr (qO rr qZ)) V [2] [1,0] fun O=>Yi ?_))))))
 have O:=O.turn 1 Z (r':=RS.hp (ZJ 3 1 ZG (ZL l) v)) (fun _ _ _ _ h=>by rw [hg];exact h)
 refine Zdd (h':=fun v=>ZJ 3 1 ZG (ZL l) v) hG O Z (.tmp Z .nil) (.one .one) rfl
def Zdb (n:Int):List Int→Bool→List Int
 | [],d=>if d then [] else [n]
 | x :: l,d=>(if d=false∧n≤x then [n] else [])++(if x=n then [] else [x])++Zdb n l (d || decide (n≤x))
def ZkH (l:List Int) (n:Int):List Int:=Zdb n l false
abbrev Zke (l:List Int):Prop:=l.Pairwise fun a b=>a<b
theorem Zer {n:Int} : ∀ {l:List Int},(∀ x ∈ l,n<x)→Zdb n l true=l
 | [],_=>rfl
 | x :: l,h=>by
  have:=h x (by simp)
  rw [Zdb,Bool.true_or,Zer fun y hy=>h y (by simp [hy]),Yc (by simp),Yc ow]
  rfl
theorem Zkp {n:Int} : ∀ {l:List Int},Zke l→Zke (ZkH l n) ∧ ∀ x,x ∈ ZkH l n ↔ x ∈ l∨x=n
 | [],_=>by simp [ZkH,Zdb]
 | y :: l,h=>by
  have h':=YI.1 h
  unfold ZkH
  by_cases h1:y<n
  ·have e:Zdb n (y :: l) false=y :: Zdb n l false:=by
    rw [Zdb,Yc ow,Yc ow,show (false || decide (n≤y))=false by simp;omega];rfl
   have ih:=Zkp (n:=n) h'.2
   rw [e]
   refine ⟨YI.2 ⟨fun p hp=>?_,ih.1⟩,fun x=>?_⟩
   ·rcases (ih.2 p).1 hp with hp | rfl
    ·exact h'.1 p hp
    ·exact h1
   ·have:=ih.2 x
    unfold ZkH at this
    simp only [Yo,this]
    constructor
    ·rintro (h | h | h)
     ·exact .inl (.inl h)
     ·exact .inl (.inr h)
     ·exact .inr h
    ·rintro ((h | h) | h)
     ·exact .inl h
     ·exact .inr (.inl h)
     ·exact .inr (.inr h)
  ·by_cases h2:y=n
   ·subst h2
    rw [Zdb,Yd ⟨rfl,Yak _⟩,Yd rfl,show (false || decide (y≤y))=true by simp,Zer h'.1]
    exact ⟨h,fun x=>by simp;intro e;exact .inl e⟩
   ·rw [Zdb,Yd ⟨rfl,by omega⟩,Yc h2,show (false || decide (n≤y))=true by simp;omega,Zer fun x hx=>by have:=h'.1 x hx;omega]
    refine ⟨YI.2 ⟨fun p hp=>?_,h⟩,fun x=>by simp;constructor <;> (rintro (h | h | h) <;> simp [h])⟩
    rcases Yo.1 hp with rfl | hp
    ·omega
    ·have:=h'.1 p hp;omega
def ZeH (l:List Int):List Int:=l.foldl ZkH []
theorem ZbO (l:List Int):Zke (ZeH l) ∧ ∀ x,x ∈ ZeH l ↔ x ∈ l:=by
 have key:∀ (l acc:List Int),Zke acc→Zke (l.foldl ZkH acc) ∧ ∀ x,x ∈ l.foldl ZkH acc ↔ x ∈ acc∨x ∈ l:=by
  intro l
  induction l with
  | nil=>intro acc h;exact ⟨h,fun x=>by simp⟩
  | cons y l ih=>
   intro acc h
   have h1:=Zkp (n:=y) h
   have h2:=ih (ZkH acc y) h1.1
   refine ⟨h2.1,fun x=>?_⟩
   rw [Ybc,h2.2 x,h1.2 x,Yo]
   constructor
   ·rintro ((h | h) | h)
    ·exact .inl h
    ·exact .inr (.inl h)
    ·exact .inr (.inr h)
   ·rintro (h | h | h)
    ·exact .inl (.inl h)
    ·exact .inl (.inr h)
    ·exact .inr h
 have:=key l [] List.Pairwise.nil
 exact ⟨this.1,fun x=>by rw [show ZeH l=l.foldl ZkH [] from rfl,this.2 x];simp⟩
theorem Zf9:∀ {a b:List Int},Zke a→Zke b→(∀ x,x ∈ a ↔ x ∈ b)→a=b
 | [],[],_,_,_=>rfl
 | [],y :: b,_,_,h=>by have:=(h y).2 (by simp);cases this
 | x :: a,[],_,_,h=>by have:=(h x).1 (by simp);cases this
 | x :: a,y :: b,ha,hb,h=>by
  have ha':=YI.1 ha
  have hb':=YI.1 hb
  have e:x=y:=by
   rcases Yo.1 ((h x).1 (by simp)) with e | e
   ·exact e
   ·rcases Yo.1 ((h y).2 (by simp)) with e2 | e2
    ·exact e2.symm
    ·have:=hb'.1 x e;have:=ha'.1 y e2;omega
  subst e
  congr 1
  refine Zf9 ha'.2 hb'.2 fun z=>⟨fun hz=>?_,fun hz=>?_⟩
  ·rcases Yo.1 ((h z).1 (by simp [hz])) with e | e
   ·have:=ha'.1 z hz;omega
   ·exact e
  ·rcases Yo.1 ((h z).2 (by simp [hz])) with e | e
   ·have:=hb'.1 z hz;omega
   ·exact e
def ZaP:List Int→List Int
 | []=>[]
 | x :: l=>match ZaP l with
  | []=>[x]
  | y :: m=>if x=y then y :: m else x :: y :: m
theorem ZdZ:∀ (x:Int) (l:List Int),∃ m,ZaP (x :: l)=x :: m
 | x,[]=>⟨[],rfl⟩
 | x,y :: l=>by
  obtain ⟨m,hm⟩:=ZdZ y l
  unfold ZaP
  rw [hm]
  by_cases h:x=y
  ·subst h;exact ⟨m,Yd rfl⟩
  ·exact ⟨y :: m,Yc h⟩
theorem Zea (x y:Int) (l:List Int):ZaP (x :: y :: l)=if x=y then ZaP (y :: l) else x :: ZaP (y :: l):=by
 obtain ⟨m,hm⟩:=ZdZ y l
 conv=>lhs;unfold ZaP
 rw [hm]
theorem ZcC:∀ {l:List Int},l.Pairwise (fun a b=>a≤b)→Zke (ZaP l) ∧ ∀ x,x ∈ ZaP l ↔ x ∈ l
 | [],_=>by simp [ZaP]
 | [x],_=>by simp [ZaP]
 | x :: y :: l,h=>by
  have h':=YI.1 h
  have ih:=ZcC h'.2
  rw [Zea]
  split
  ·rename_i e
   subst e
   exact ⟨ih.1,fun z=>by rw [ih.2 z];simp⟩
  ·rename_i e
   refine ⟨YI.2 ⟨fun z hz=>?_,ih.1⟩,fun z=>by rw [Yo,ih.2 z,← Yo]⟩
   have h1:=h'.1 y (by simp)
   rcases Yo.1 ((ih.2 z).1 hz) with rfl | hz2
   ·omega
   ·have:=(YI.1 h'.2).1 z hz2
    omega
theorem ZlX (l:List Int):List.Pairwise (fun x y=>x≤y) (l.mergeSort leI):=by
 have:=Ya5 (le:=leI) (fun a b c h1 h2=>by simp [leI] at *;omega) (fun a b=>by simp [leI];omega) l
 exact this.imp fun h=>by simpa [leI] using h
theorem Zi0 (l:List Int):ZaP (l.mergeSort leI)=ZeH l:=
 Zf9 (ZcC (ZlX l)).1 (ZbO l).1 fun x=>by rw [(ZcC (ZlX l)).2,(ZbO l).2];exact (YaD l leI).mem_iff
theorem ZgA:∀ l:List Int,ZL l=ZaP l
 | []=>rfl
 | [x]=>rfl
 | x :: y :: l=>by
  rw [Zea,← ZgA (y :: l)];rfl
theorem ZhP {n:Int} : ∀ (l:List Int) (d:Bool),(Zdb n l d).length≤l.length+1
 | [],d=>by cases d <;> simp [Zdb]
 | x :: l,d=>by
  have h1:=ZhP (n:=n) l (d || decide (n≤x))
  have h2:∀ l:List Int,(Zdb n l true).length≤l.length:=fun l=>by
   induction l with
   | nil=>simp [Zdb]
   | cons y l ih=>
    rw [Zdb,Yc (by simp),Yb,Yb,Bool.true_or]
    split <;> simp <;> omega
  rw [Zdb,Yb,Yb]
  have h3:=h2 l
  by_cases hA:d=false∧n≤x
  ·rw [show (d || decide (n≤x))=true by simp [hA.2],Yd hA]
   split <;> simp <;> omega
  ·rw [Yc hA]
   split <;> simp <;> omega
structure OpD where
 read:Bool
 key:Int
 tx:Int
 nth:Int
 deriving DecidableEq,Inhabited
structure TxD where
 id:Int
 done:Bool
 ops:List OpD
 deriving DecidableEq,Inhabited
structure Zr where
 key:Int
 txs:List Int
 deriving DecidableEq,Inhabited
structure ZS where
 txs:List TxD
 orders:List Zr
 deriving DecidableEq,Inhabited
structure ZK where
 was:List TxD
 now:List TxD
 old:List Zr
 new:List Zr
 deriving DecidableEq,Inhabited
def rOp (o:OpD):List PV:=[.bool o.read,.int .i64 o.key,.int .i64 o.tx,.int .i64 o.nth]
def rTx (t:TxD):List PV:=[.int .i64 t.id,.bool t.done,.sl rOp t.ops]
def ZB (o:Zr):List PV:=[.int .i64 o.key,.sl ZG o.txs]
def Zs (h:ZS):List PV:=[.sl rTx h.txs,.sl ZB h.orders]
def Zah (d:ZK):List PV:=[.sl rTx d.was,.sl rTx d.now,.sl ZB d.old,.sl ZB d.new]
theorem Zou {u v:OpD} (h:(!((u.read == v.read) && (decide (u.key=v.key) && (decide (u.tx=v.tx) && (decide (u.nth=v.nth) && true)))))=false):u=v:=by
 cases u;cases v
 simp at h
 simp [h]
theorem Zmu (x y:List OpD):FnP prog 59 [.sl rOp x,.sl rOp y] (.bool (decide (x=y))):=by
 refine FnP.mk func59 Z ntmps59 Z fun B a w F V hfr O=>?_
 have hxl:=Sat.lenSl O (i:=0) rfl
 refine Ya (rZ O qB V [4,1,0] [0] fun O=>(Ya (Ya ?_)))
 refine rZ O (qR rr (qu Ybz r1 (qR rr (qu Ybz r1 (qf (o_neq .t .t) r2 qz qZ))))) V [10,4,1,0] [0] fun O=>?_
 refine Zd O Z (fun hc0=>?_) (fun hc0=>?_)
 ·have hg:false=decide (x=y):=by
    rw [Yab,Yh]
    intro h
    subst h
    simp at hc0
  refine Ya (rZ O qB V [4,1,0] [0] fun O=>(Yi (Zk ?_)))
  refine ZP hfr O Z Z Z (.bool hg)
 have hl:x.length=y.length:=by simp at hc0;omega
 refine Yf (Za (Ya (Ya (rZ O (qR rr (qu Ybz r1 (qJ qZ))) V [13,12,4,1,0] [0] fun O=>Ye ?_))))
 obtain ⟨F,O⟩:=O.nM [13,12,1,0] [0]
 refine Zbx (σ:=Nat) (fun s=>(⟨[(0,.pv (.sl rOp x)),(1,.pv (.sl rOp y)),(12,.pv (.int .i64 x.length)),(13,.pv (.int .i64 s))],[(0,frame B)]⟩:En)) (fun s=>s≤x.length ∧ ∀ j,j<s→Nn x j=Nn y j) (fun s=>x.length - s) 0 O ⟨Yz _,fun j hj=>absurd hj (YR j)⟩ ?_
 clear O;intro i a w F hC O
 try dsimp only at hC
 try dsimp only at O
 obtain ⟨hi,hq⟩:=hC
 refine Ya (rZ O (qL r2) V [14,13,12,1,0] [0] fun O=>Ya ?_)
 refine Zd O Z (fun hc1=>?_) (fun hc1=>?_)
 ·have hil:i<x.length:=by simp at hc1;omega
  refine Yf (Za (Ya (Ye (Ya (rZ O (qR rr (qO rr qZ)) V [13,12,5,1,0] [0] fun O=>Ya ?_)))))
  refine Zq O (qR rr (qR rr (qy 4 Ybz r2 (qf (oR true 4 .t) r1 qz (qR rr (qR rr (qy 4 Ybz r2 (qf (oR true 4 .t) r1 qz (qf (Zm6 (ks:=[false,true,true,true]) kr .t .t (.bool (.int (.int (.int .nil))))) r2 qz qZ))))))))) V [24,13,12,1,0] [0] Z Z fun a w F O=>?_
  try dsimp only [List.map,xD,xE,xT,xU,ldSF] at O
  refine Za (Zd O Z (fun hc2=>?_) (fun hc2=>?_))
  ·have hg:false=decide (x=y):=by
     rw [Yab,Yh]
     intro h
     subst h
     simp at hc2
   refine Ya (rZ O qB V [13,12,4,1,0] [0] fun O=>(Yi (ZC (Zk (Zk (ZC (Zk ?_)))))))
   refine ZP hfr O Z Z Z (.bool hg)
  rw [Yg] at hc2
  have hqi:Nn x i=Nn y i:=Zou hc2
  refine Yf (Zm (Za (rZ O (qp r1 (qR rr qZ)) V [13,12,1,0] [0] fun O=>?_)))
  replace O:=O.ent (i:=13) (s':=.pv (.int .i64 ((i+1:Nat):Int))) Z (.int (Zl ow))
  obtain ⟨F,O⟩:=O.nM [13,12,1,0] [0]
  exact ⟨i+1,F,⟨by omega,fun j hj=>by rcases YG (YN hj) with h | h;exact hq j h;rw [h];exact hqi⟩,O,by omega⟩
 have hg:true=decide (x=y):=by
   rw [Yab,Yj]
   exact ZaD hl fun j hj=>hq j (by simp at hc1;omega)
 refine Yr (Zj (Zj (Zv (Za (Ya (rZ O qB V [4] [0] fun O=>Yi ?_))))))
 refine ZP hfr O Z Z Z (.bool hg)
theorem ZjF (l:List OpD) (hl:l.length≤1000000):FnG prog 86 1 [.sl rOp l] [.star []] (PV.one) (fun v=>[ZJ 70 4 rOp l v]):=by
 refine FnG.mk func86 Z ntmps86 Z kr fun B F0 a w F V hG O=>?_
 obtain ⟨F,O⟩:=O.nM [0] [0]
 refine Ya (rZ O (qC qZ) V [2,0] [0] fun O=>(Ya (Ya ?_)))
 refine Zf O (qR rr (qf (Zcf Ybz .t) r1 qz qZ)) V [4,2,0] [0] Z Z fun a w F O=>?_
 obtain ⟨β4,hβ4,O⟩:=O.pickBool 4 rfl
 obtain ⟨F,O⟩:=O.nM [4,2,0] [0]
 refine Za (Zd O Z (fun hc0=>?_) (fun hc0=>?_))
 ·have hg:l = []:=hβ4 hc0
  refine Ya (rZ O (qC qZ) V [2,0] [0] fun O=>(Yi (Zk ?_)))
  have O:=O.fresh 1 rfl
  have O:=O.turn 1 Z (ZaI (T:=70) (sz:=4) (R:=rOp))
  have O:=O.turn 1 Z (r':=RS.hp (ZJ 70 4 rOp l (.slice none 0 0))) (fun _ _ _ _ h=>by rw [hg];exact h)
  refine Zdd (h':=fun v=>ZJ 70 4 rOp l v) hG O Z (.tmp Z .nil) (.one .one) rfl
 have hg:l = [] ++ l:=rfl
 refine Yf (Za (Ya (Zb O (qf (Zbv (R:=rOp) (sz:=4) 101 Ybz kr) trivial qz (qR rr (qf (Z1 (sz:=4) (bs:=32) 101 (.mk' Ybz kr kr) (by intro x;rfl) .same (.sl .t) (by simp only [Yb,Yx];omega) (by decide)) ⟨rfl,rfl,tv⟩ ⟨rfl,tv⟩ (qO rr qZ)))) V [2] [101,0] (fun _=>rfl) (fun _=>rfl) fun τ a w F O=>?_)))
 try dsimp only [RS.sub,SF.sub,CF.sub,csub,Anc.sub,List.map,Ze,xL,xM,Nat.reduceAdd,xD,xE,xT,xU,xC,xN,zCF,rOp] at O
 generalize τ 7=v7 at O
 refine Za (Yi ?_)
 obtain ⟨F,O⟩:=O.rename 101 1 Z rfl
 have O:=O.turn 1 Z (r':=RS.hp (ZJ 70 4 rOp l v7)) (fun _ _ _ _ h=>by rw [hg];exact h)
 refine Zdd (h':=fun v=>ZJ 70 4 rOp l v) hG O Z (.tmp Z .nil) (.one .one) rfl
structure ZqM where
 src:Int
 dst:Int
 kind:Int
 key:Int
 deriving DecidableEq,Inhabited
structure Zc9 where
 tx:Int
 key:Int
 nth:Int
 deriving DecidableEq,Inhabited
def Zaq (v:Zc9):List PV:=[.int .i64 v.tx,.int .i64 v.key,.int .i64 v.nth]
def noV:Zc9:=⟨0,0,0⟩
def idB (n:Int):Bool:=decide (1≤n) && decide (n≤1048575)
def Zct (v:Zc9):Bool:=if v.tx=0 then idB v.key && decide (v.nth=0) else ((idB v.tx && idB v.key) && decide (1≤v.nth)) && decide (v.nth≤4095)
def Zqf (v:Zc9):Int:=(v.tx*1048576+v.key)*4096+v.nth
def Zok (v:Zc9):Int×Int:=if Zct v then (Zqf v,0) else (0,1)
theorem Zi7 {n:Int} : idB n=true ↔ 1≤n∧n≤1048575:=by unfold idB;rw [Yu,Yj,Yj]
theorem Zlg (k:Int):decide (k<1) = !decide (1≤k):=by rw [← decide_not];exact decide_eq_decide.2 ow
theorem Zmd (m k:Int):decide (m<k) = !decide (k≤m):=by rw [← decide_not];exact decide_eq_decide.2 ow
theorem or64 (x y:Nat) (hx:x<18446744073709551616) (hy:y<18446744073709551616):bits .or .u64 (x:Int) (y:Int)=((x ||| y:Nat):Int):=by
 have h1:(BitVec.ofInt 64 (x:Int)).toNat=x:=by rw [BitVec.toNat_ofInt];omega
 have h2:(BitVec.ofInt 64 (y:Int)).toNat=y:=by rw [BitVec.toNat_ofInt];omega
 show IntKind.wrap .u64 (((BitVec.ofInt 64 (x:Int) ||| BitVec.ofInt 64 (y:Int)).toNat:Nat):Int)=_
 rw [BitVec.toNat_or,h1,h2]
 exact Zdw (by have:=Nat.or_lt_two_pow (n:=64) hx hy;omega)
theorem Zqg {q:Nat} (h:q<18446744073709551616):IntKind.wrap .u64 (q:Int)=q:=Zdw ow
theorem Zoy {K:Int} (k:Nat) (hk:min K.toNat (IntKind.bits .u64)=k) (x y:Int) (hx:0≤x) (hy:0≤y) (hyk:y<2 ^ k) (hb:x*2 ^ k+y<18446744073709551616):bits .or .u64 (IntKind.wrap .u64 (x*2 ^ min K.toNat (IntKind.bits .u64))) y=x*2 ^ k+y:=by
 obtain ⟨X,rfl⟩:=Int.eq_ofNat_of_zero_le hx
 obtain ⟨Y,rfl⟩:=Int.eq_ofNat_of_zero_le hy
 rw [hk]
 have e2:(X:Int)*2 ^ k=((X*2 ^ k:Nat):Int):=by rw [Int.natCast_mul,Int.natCast_pow];rfl
 have hY:Y<2 ^ k:=by exact_mod_cast hyk
 have hor:X*2 ^ k ||| Y=X*2 ^ k+Y:=by rw [Nat.mul_comm];exact (Nat.two_pow_add_eq_or_of_lt hY X).symm
 rw [e2] at hb ⊢
 generalize X*2 ^ k=Q at hb hor ⊢
 rw [Zqg ow,or64 _ _ ow ow,hor]
 omega
theorem Zju {v:Zc9} (h:Zct v=true):bits .or .u64 (IntKind.wrap .u64 (bits .or .u64 (IntKind.wrap .u64 (IntKind.wrap .u64 v.tx*2 ^ min (20:Int).toNat (IntKind.bits .u64))) (IntKind.wrap .u64 v.key)*2 ^ min (12:Int).toNat (IntKind.bits .u64))) (IntKind.wrap .u64 v.nth)=Zqf v:=by
 have hb:(0≤v.tx∧v.tx≤1048575)∧(1≤v.key∧v.key≤1048575)∧(0≤v.nth∧v.nth≤4095):=by
  unfold Zct at h
  split at h <;> simp only [Yu,Yj,Zi7] at h <;> omega
 obtain ⟨h1,h2,h3⟩:=hb
 rw [Zdw (x:=v.tx) ow,Zdw (x:=v.key) ow,Zdw (x:=v.nth) ow]
 rw [Zoy 20 rfl v.tx v.key ow ow ow ow,Zoy 12 rfl (v.tx*2 ^ 20+v.key) v.nth ow ow ow ow]
 unfold Zqf
 omega
theorem ZqJ (n:Int):FnP prog 259 [.int .i64 n] (.bool (idB n)):=by
 refine FnP.mk func259 Z ntmps259 Z fun B a w F V hfr O=>Ya ?_
 refine rZ O qB V [2,0] [0] fun O=>Ya ?_
 refine rZ O (qR rr (qf (ZeG .t qi) r1 qz (qR rr (qm Z Z Z Z (qk Z (fun h=>ZiO (.w h) qi) r2 qz (qf (ZT .t .t) r2 qz (qO rr qZ))))))) V [2] [0] fun O=>Yi ?_
 refine ZP hfr O Z Z Z .refl
end Go.Proofs.YtfecljadegkmdaaGreat
