/- Laws and walks. No condition beyond what each says. -/
import Derived.Test.YtfecljadegkmdaaGreatJ11
namespace Go.Proofs.YtfecljadegkmdaaGreat
open Go Go.Gm Tryz
set_option linter.unusedVariables false
set_option linter.unusedSimpArgs false
set_option maxHeartbeats 4000000
set_option maxRecDepth 8000
theorem doT1_ok {A:StA} (hk:Zax A) (d:ZK) (z:Int):∀ i,i≤d.was.length→DoOk A (rT1 A d z i) (sizeH (hiA A)):=by
 intro i
 induction i with
 | zero=>intro _;exact DoOk.start hk z
 | succ i ih=>intro hi;rw [rT1_next ow];exact (ih ow).delT _
theorem doT2_ok {A:StA} (hk:Zax A) (d:ZK) (z:Int):∀ i,i≤d.now.length→DoOk (stT A d i) (rT2 A d z i) (sizeH (hiA A)+i):=by
 intro i
 induction i with
 | zero=>intro _;rw [stT_zero,← rT_join rfl];exact doT1_ok hk d z _ (Yw _)
 | succ i ih=>intro hi;exact (ih ow).nextT ow
theorem doO1_ok {A:StA} (hk:Zax A) (d:ZK) (z:Int):∀ i,i≤d.old.length→DoOk (stO A d 0) (rO1 A d z i) (sizeH (hiA A)+d.now.length):=by
 intro i
 induction i with
 | zero=>intro _;rw [← stTO_join rfl,← rTO_join rfl];exact doT2_ok hk d z _ (Yw _)
 | succ i ih=>intro hi;rw [rO1_next ow];exact (ih ow).delO _
theorem Zpa {A:StA} (hk:Zax A) (d:ZK) (z:Int):∀ i,i≤d.new.length → ∃ y,DoOk (stO A d i) (rO2 A d z i) y:=by
 intro i
 induction i with
 | zero=>intro _;rw [← rO_join rfl];exact ⟨_,doO1_ok hk d z _ (Yw _)⟩
 | succ i ih=>intro hi;obtain ⟨y,hy⟩:=ih ow;exact ⟨_,hy.nextO ow⟩
theorem Zax.done {A:StA} (hk:Zax A) (d:ZK):Zax (Go.Proofs.YtfecljadegkmdaaGreat.doA A d).1:=hk.doA d fun z _=>by
 obtain ⟨y,hy⟩:=Zpa hk d z _ (Yw _)
 have:=hy.rok
 rw [ZmW rfl,Zkt rfl] at this
 exact this
theorem Zid {α:Type} [DecidableEq α] {κ:α→Int} (l:List α):Zay κ l [] = l:=by
 unfold Zay
 rw [Ya4]
 intro x _
 simp [ZO]
def mkT (k:Nat):TxD:=⟨(k:Int)+1,true,[⟨false,7,0,0⟩]⟩
def tsN (n:Nat):List TxD:=(List.range n).map mkT
def isN (n:Nat):List Int:=(List.range n).map fun k:Nat=>(k:Int)+1
def dNn (n:Nat):ZK:=⟨[],tsN n,[],[⟨7,isN n⟩]⟩
def hNn (n:Nat):ZS:=⟨tsN n,[⟨7,isN n⟩]⟩
theorem Zhs:∀ n:Nat,n<41→0<n→Zat (hNn n):=by decide +kernel
theorem Zem (n:Nat):(tsN n).length=n:=by simp [tsN]
theorem Zft (n:Nat):(isN n).length=n:=by simp [isN]
theorem Zn8 (n:Nat):tsN n ++ [mkT n] = tsN (n+1):=by unfold tsN;rw [List.range_succ,YL];rfl
theorem Zoc (n:Nat):isN n ++ [(n:Int)+1] = isN (n+1):=by unfold isN;rw [List.range_succ,YL];rfl
theorem apN {n:Nat} (h1:n<41) (h0:0<n):ZN ⟨[],[]⟩ (dNn n)=(hNn n,0):=by
 have h:=Zg1 ZeP (Zhs n h1 h0)
 have e:(ofD (⟨[],[]⟩:ZS) (hNn n)).1=dNn n:=by
  unfold ofD
  rw [Yd ⟨ZeP,Zhs n h1 h0⟩]
  show (⟨Zay _ [] _,Zay _ (tsN n) [],Zay _ [] _,Zay _ _ []⟩:ZK)=_
  rw [Zid,Zid];rfl
 rwa [e] at h
theorem szN (n:Nat):sizeH (hNn n)=2*n+1:=by
 unfold sizeH hNn Zbd
 simp [Zem,Zft];omega
def rNn (n:Nat):RtA:=ZhE Zc8 (dNn n) ((2*n+1:Nat):Int)
def AKn (n k:Nat):StA:=⟨rNn n,(List.range k).map (fun j:Nat=>((j:Int),rNn n)),k,tsN n,[isN n]⟩
theorem doN {n:Nat} (h1:n<41) (h0:0<n):doA Zc8 (dNn n)=(AKn n 0,0):=by
 unfold doA
 rw [show hiA Zc8=(⟨[],[]⟩:ZS) from rfl,apN h1 h0]
 dsimp only
 rw [Yc (by simp),szN,Yc (by show ¬ ZaH Zc8 - (0:Int)+_ > 10000;rw [show ZaH Zc8=0 from rfl];omega)]
 rfl
theorem Zh2 {l:List (Int×RtA)} {c:Int} (h:∀ x ∈ l,x.2.size=c):(l.map fun x=>x.2.size).sum=l.length*c:=by
 induction l with
 | nil=>simp
 | cons x l ih=>
  rw [Yy,YaC,ih fun y hy=>h y (YA _ hy),h x Yag,Yp]
  rw [show ((l.length+1:Nat):Int)=(l.length:Int)+1 by omega,Ybn];omega
theorem ZpA (n k:Nat):ZaH (AKn n k)=((k:Int)+1)*(2*n+1):=by
 unfold ZaH
 rw [Zh2 (c:=((2*n+1:Nat):Int)) (fun x hx=>by
  obtain ⟨j,_,rfl⟩:=Yv.1 hx
  rfl)]
 show ((2*n+1:Nat):Int)+(((List.range k).map _).length:Nat)*_=_
 rw [YF,Ybh,Ybn]
 have:((2*n+1:Nat):Int)=2*(n:Int)+1:=by omega
 rw [this];omega
theorem ZpZ {n k:Nat} (h:((k:Int)+2)*(2*n+1)≤10000):Zbj (AKn n k)=(AKn n (k+1),(k:Int),0):=by
 unfold Zbj
 have e:((k:Int)+2)*(2*n+1)=((k:Int)+1)*(2*n+1)+(2*n+1):=by rw [show (k:Int)+2=(k+1)+1 by omega,Ybn (k+1:Int) 1];omega
 rw [Yc (by rw [ZpA];show ¬ _+((2*n+1:Nat):Int) > 10000;omega)]
 show ((⟨rNn n,_ ++ [((k:Int),rNn n)],(k:Int)+1,_,_⟩:StA),(k:Int),(0:Int))=_
 unfold AKn
 rw [List.range_succ,YL];rfl
theorem Znr {n k:Nat} (h:((k:Int)+2)*(2*n+1) > 10000):Zbj (AKn n k)=(AKn n k,0,2):=by
 unfold Zbj
 have e:((k:Int)+2)*(2*n+1)=((k:Int)+1)*(2*n+1)+(2*n+1):=by rw [show (k:Int)+2=(k+1)+1 by omega,Ybn (k+1:Int) 1];omega
 rw [Yd (by rw [ZpA];show _+((2*n+1:Nat):Int) > 10000;omega)]
def ADn (n k:Nat):StA:=⟨rNn n,(List.range k).map (fun j:Nat=>((j:Int)+1,rNn n)),(k:Int)+1,tsN n,[isN n]⟩
theorem ZpH (n k:Nat):Zdn (AKn n (k+1)) 0=(ADn n k,0):=by
 have e:(AKn n (k+1)).snaps=((0:Int),rNn n) :: (List.range k).map (fun j:Nat=>((j:Int)+1,rNn n)):=by
  show (List.range (k+1)).map _=_
  rw [List.range_succ_eq_map,Yy,YaG];rfl
 unfold Zdn ZeJ
 rw [e,List.find?_cons,YX rfl]
 dsimp only
 rw [Yau,Yc (by simp),Ya4.2 (fun x hx=>by
  obtain ⟨j,_,rfl⟩:=Yv.1 hx
  simp;omega)]
 rfl
theorem Zqx (n k:Nat):ZaH (ADn n k)=((k:Int)+1)*(2*n+1):=by
 unfold ZaH
 rw [Zh2 (c:=((2*n+1:Nat):Int)) (fun x hx=>by
  obtain ⟨j,_,rfl⟩:=Yv.1 hx
  rfl)]
 show ((2*n+1:Nat):Int)+(((List.range k).map _).length:Nat)*_=_
 rw [YF,Ybh,Ybn]
 have:((2*n+1:Nat):Int)=2*(n:Int)+1:=by omega
 rw [this];omega
theorem Zqm {n k:Nat} (h:((k:Int)+2)*(2*n+1)≤10000):(Zbj (ADn n k)).2=((k:Int)+1,0)∧ZaH (Zbj (ADn n k)).1=((k:Int)+2)*(2*n+1):=by
 have e:((k:Int)+2)*(2*n+1)=((k:Int)+1)*(2*n+1)+(2*n+1):=by rw [show (k:Int)+2=(k+1)+1 by omega,Ybn (k+1:Int) 1];omega
 have hh:=Zqx n k
 unfold Zbj
 rw [Yc (by rw [hh];show ¬ _+((2*n+1:Nat):Int) > 10000;omega)]
 refine ⟨rfl,?_⟩
 unfold ZaH at hh ⊢
 show (rNn n).size+(((ADn n k).snaps ++ [((ADn n k).next,rNn n)]).map fun x=>x.2.size).sum=_
 rw [YL,YaB]
 show (rNn n).size+(_+((rNn n).size+0))=_
 have h3:(rNn n).size=2*(n:Int)+1:=by show ((2*n+1:Nat):Int)=_;omega
 have hh:(rNn n).size+(List.map (fun x=>x.2.size) (ADn n k).snaps).sum=((k:Int)+1)*(2*n+1):=hh
 omega
theorem okK {n k:Nat} (h1:n<41) (h0:0<n) (h:((k:Int)+1)*(2*n+1)≤10000):Zax (AKn n k):=by
 induction k with
 | zero=>have:=Zax.zero.done (dNn n);rwa [doN h1 h0] at this
 | succ k ih=>
  have h2:((k:Int)+2)*(2*n+1)≤10000:=by rw [show (k:Int)+2=((k+1:Nat):Int)+1 by omega];exact h
  have e:((k:Int)+2)*(2*n+1)=((k:Int)+1)*(2*n+1)+(2*n+1):=by rw [show (k:Int)+2=(k+1)+1 by omega,Ybn (k+1:Int) 1];omega
  have:=(ih ow).keep
  rwa [ZpZ h2] at this
theorem Zqv {n k:Nat} (h1:n<41) (hk:k≤10000) {A:StA} (hA:A.next≤100000) (hs:A.snaps.length≤100000) (ha:A.all=tsN n) (hq:A.seqs = [isN n]):Zba A:=by
 have h2:=Zem n
 have h3:=Zft n
 refine ⟨hA,hs,by rw [ha];omega,by rw [hq];simp,fun l hl=>?_,fun t ht=>?_⟩
 ·rw [hq,Yl] at hl
  rw [hl];omega
 ·rw [ha] at ht
  obtain ⟨j,_,rfl⟩:=Yv.1 ht
  simp [mkT]
theorem Zqr {n k:Nat} (h1:n<41) (hk:k≤10000):Zba (AKn n k):=Zqv h1 hk (by show (k:Int)≤100000;omega) (by show ((List.range k).map _).length≤_;rw [YF,Ybh];omega) rfl rfl
theorem ZqE {n k:Nat} (h1:n<41) (hk:k≤10000):Zba (ADn n k):=Zqv h1 hk (by show (k:Int)+1≤100000;omega) (by show ((List.range k).map _).length≤_;rw [YF,Ybh];omega) rfl rfl
theorem ZqS {n k:Nat} (h1:n<41) (hk:k≤10000):Zba (Zbj (ADn n k)).1:=by
 unfold Zbj
 split
 ·exact ZqE h1 hk
 ·refine Zqv h1 hk (by show (k:Int)+1+1≤100000;omega) ?_ Z rfl
  show ((List.range k).map _ ++ [_]).length≤_
  rw [Yb,YF,Ybh];simp;omega
theorem dfN {n:Nat} (h1:n<41):Zi6 Zc8 (dNn n):=⟨⟨by decide,by decide,by decide,by decide,by decide,by decide⟩,by show 0+(tsN n).length≤_;rw [Zem];omega,by show 0+1≤_;omega,fun t ht=>by
 obtain ⟨j,_,rfl⟩:=Yv.1 ht
 simp [mkT],fun o ho=>by rw [show (dNn n).new = [⟨7,isN n⟩] from rfl,Yl] at ho;rw [ho,Zft];omega⟩
theorem smN {n:Nat} (h1:n<41):ZbI (hiA Zc8) (dNn n):=by
 have hd:Zel ⟨tsN n,[⟨7,isN n⟩]⟩:=⟨⟨by rw [Zem];omega,fun t ht=>by
  obtain ⟨j,_,rfl⟩:=Yv.1 ht
  simp [mkT]⟩,by simp,fun o ho=>by rw [Yl] at ho;rw [ho,Zft];omega⟩
 exact .of (by decide) ⟨show Zel ⟨[],[]⟩ by decide,hd⟩ (by show 0+(tsN n).length≤_;rw [Zem];omega) (by show 0+1≤1000;decide)
theorem mulq {q k m:Nat} (h:q*(2*m+1)≤10000) (hk:k+1≤q):((k:Int)+1)*(2*m+1)≤10000:=by
 have h1:(k+1)*(2*m+1)≤q*(2*m+1):=YZ _ hk
 have h2:(((k+1)*(2*m+1):Nat):Int)≤10000:=by omega
 rw [Int.natCast_mul] at h2
 exact h2
theorem mulq2 {q k m:Nat} (h:10000<(q+1)*(2*m+1)) (hk:k+1=q):((k:Int)+2)*(2*m+1) > 10000:=by
 subst hk
 have h2:10000<(((k+1+1)*(2*m+1):Nat):Int):=by omega
 rw [Int.natCast_mul] at h2
 exact h2
theorem divq {s:Nat} (hs:0<s):10000<(10000 / s+1)*s:=by
 have h1:=Nat.div_add_mod 10000 s
 have h2:=Nat.mod_lt 10000 hs
 rw [Ybl,Nat.mul_comm (10000 / s) s];omega
theorem ZqG {n k:Nat} (h1:n<41) (h0:0<n) (h:((k:Int)+2)*(2*n+1)≤10000):Zax (ADn n k):=by
 have h2:=okK (k:=k+1) h1 h0 (by rw [show ((k+1:Nat):Int)+1=(k:Int)+2 by omega];exact h)
 have h3:=h2.drop 0
 rwa [ZpH] at h3
theorem ZhR (n:Int):FnP prog 5 [.int .i64 n] (.bool true):=by
 refine FnP.mk func5 Z ntmps5 Z fun B a w F V hfr O=>Ya ?_
 refine Zf O qB V [2,0] [0] Z Z fun a w F O=>?_
 try rw [hqd,Zc (x:=(q:Int)) ow,Zc (x:=(q:Int) - 1) ow,hkd2,Zc (x:=(q:Int)*((2*m+1:Nat):Int)) ow] at O
 try (have hg:true=_:=by rfl)
 refine Za (Ya (Ya (rZ O (qf (oP (ZmL) func9 Args.nil) trivial qz (qf (ZaA .t) r1 qz qZ)) V [16,2,0] [0] fun O=>?_)))
 refine Zd O Z (fun hc0=>?_) (fun hc0=>?_)
 ·simp at hc0
 refine Yf (Za (Ya ?_))
 replace O:=O.fresh 61 rfl
 obtain ⟨F,O⟩:=O.nM [16,2,0] [61,0]
 refine Zb O (qf (Zck 61 (ZlJ) func7 Z kr Args.nil PV.ptr_one) qz r1 (qO rr qZ)) V [3,2,0] [61,0] (fun _=>rfl) (fun _=>rfl) fun τ a w F O=>?_
 try dsimp only [RS.sub,SF.sub,CF.sub,csub,Anc.sub,List.map,rRt,rSq,Zx,rTx,ZB,Zs,ZG,rOp,Zah] at O
 generalize τ 17=v17 at O
 obtain ⟨_,_,_,ho⟩:=O.obGet 61 rfl
 obtain ⟨b1,rfl⟩:=ZgI ho
 clear ho
 replace O:=O.turn 61 Z (r':=RS.hp (ZR (.pointer (some ⟨b1,0,none⟩)) Zc8)) (fun _ _ _ _ h=>h)
 obtain ⟨F,O⟩:=O.nM [3,2,0] [61,0]
 refine Za (Ya (Ya (rZ O (qR rr (qf (Z3 _ YbB Z .t) r1 qz (qR rr (qm Z Z Z Z (qk Z (fun h=>ZaG (.w h) qi) r2 qz (qf (ZaQ .t .t) r2 qz (qR rr (qm Z Z Z Z (qk Z (fun h=>Zas (.w h) qi) r2 qz (qf (ZaQ .t .t) r2 qz qZ)))))))))) V [27,3,2,0] [61,0] fun O=>?_)))
 refine Zd O Z (fun hc1=>?_) (fun hc1=>?_)
 ·refine Ya (Zf O (qR rr (qf (Zfm _ YbB Z .t) r1 qz (qO rr qZ))) V [3,2,0] [61,0] Z Z fun a w F O=>?_)
  try rw [hqd,Zc (x:=(q:Int)) ow,Zc (x:=(q:Int) - 1) ow,hkd2,Zc (x:=(q:Int)*((2*m+1:Nat):Int)) ow] at O
  try (have hg:true=_:=by rfl)
  refine Za (Yi (Zk (ZP hfr O Z Z Z (.bool (by first | rfl | (simp;done) | (simp;exact ⟨by omega,hg8⟩))))))
 have hn9:1≤n∧n≤40:=by simp at hc1;omega
 obtain ⟨m,rfl⟩:∃ m:Nat,n=(m:Int):=⟨n.toNat,by omega⟩
 have hm1:m<41:=by omega
 have hm0:0<m:=by omega
 obtain ⟨q,hq9⟩:∃ q:Nat,q=10000 / (2*m+1):=⟨_,rfl⟩
 have hqd:Int.tdiv 10000 ((2*m+1:Nat):Int)=(q:Int):=by rw [hq9];rfl
 have hq1:q*(2*m+1)≤10000:=by rw [hq9];exact Nat.div_mul_le_self _ _
 have hq2:10000<(q+1)*(2*m+1):=by rw [hq9];exact divq ow
 have hq3:123≤q:=by rw [hq9];exact Yac (by decide:123≤10000 / 81) (Nat.div_le_div_left ow ow)
 have hq4:q≤10000:=by rw [hq9];exact Nat.div_le_self _ _
 refine Yf (Za (Ya (Zb O (qf (oH [.slice none 0 0,.slice none 0 0,.slice none 0 0,.slice none 0 0] 101) trivial qz qZ) V [4,3,2,0] [101,61,0] (fun _=>rfl) (fun _=>rfl) fun τ a w F O=>?_)))
 try dsimp only [RS.sub,SF.sub,CF.sub,csub,Anc.sub,List.map,zCF,rRt,rSq,Zx,rTx,ZB,Zs,ZG,rOp,Zah] at O
 generalize τ 4=v4 at O
 refine Za (Ya (rZ O (qC qZ) V [5,4,3,2,0] [101,61,0] fun O=>(Ya (Ya ?_))))
 refine rZ O (qI qZ) V [6,5,4,3,2,0] [101,61,0] fun O=>Ye ?_
 replace O:=O.fresh 51 rfl
 replace O:=O.turn 51 Z (ZaI (T:=3) (sz:=1) (R:=ZG))
 replace O:=O.fresh 50 rfl
 replace O:=O.turn 50 Z (ZaI (T:=36) (sz:=3) (R:=rTx))
 replace O:=O.ent (i:=6) (s':=.pv (.int .i64 (((0:Nat):Int)+1))) Z (.int ow)
 refine Zo (σ:=Nat×Value×List TxD×Value×List Int) [0,2,3,4] [0,61] (fun s=>[(6,.pv (.int .i64 ((s.1:Int)+1))),(5,.pv (.is s.2.2.2.1))]) (fun s=>[(101,.pt (.val v4) 43 [.pv (.is (.slice none 0 0)),.pv (.is s.2.1),.pv (.is (.slice none 0 0)),.pv (.is (.slice none 0 0))]),(50,.ob (.val s.2.1) (ZJ 36 3 rTx s.2.2.1)),(51,.ob (.val s.2.2.2.1) (ZJ 3 1 ZG s.2.2.2.2))]) (fun s=>s.1≤m∧s.2.2.1=tsN s.1∧s.2.2.2.2=isN s.1) (fun s=>m - s.1) ((0),(.slice none 0 0),([]),(.slice none 0 0),([])) O ⟨rfl,rfl,rfl,rfl,rfl,rfl,tv⟩ ⟨rfl,rfl,rfl,rfl,rfl,tv⟩ ⟨Yz _,rfl,rfl⟩ ?_
 clear O;intro s a w F hC O
 obtain ⟨j,u,outT,v,outI⟩:=s
 try dsimp only at hC
 obtain ⟨F,O⟩:=O.nM [6,5,4,3,2,0] [101,61,51,50,0]
 try dsimp only at O
 obtain ⟨hj,hT,hI⟩:=hC
 have hTl:outT.length≤40:=by rw [hT,Zem];omega
 have hIl:outI.length≤40:=by rw [hI,Zft];omega
 refine Ya (Ya (rZ O (qR rr (qR rr (qf (ZiO .t .t) r2 qz qZ))) V [32,6,5,4,3,2,0] [101,61,51,50,0] fun O=>?_))
 refine Zd O Z (fun hc2=>?_) (fun hc2=>?_)
 ·have hjm:j<m:=by simp at hc2;omega
  refine Yf (Za (Ya (Ye (Ya (Zb O (qg 1 101 r1 r1 (qa 101 r1 r1 (qR rr (qf (oB [(1,_)] [.bool false,.int .i64 0,.int .i64 0,.int .i64 0] [(0,1),(1,1),(2,1),(3,1)] (.one Z qi one_int kr .nil)) trivial qz (qf (Zy (sz:=4) (zs:=[.bool false,.int .i64 0,.int .i64 0,.int .i64 0]) (r:=[(0,.tmp 38)]) (l:=[_,_,_,_]) Ybz kr kr kr kr Z Z (.agg Z .t kr kr .nil) Z) r1 qz (qf (oB [(0,.tmp 37),(1,_),(2,.tmp 39)] [.int .i64 0,.bool false,.slice none 0 0] [(0,1),(1,1),(2,1)] (.one Z .t one_int kr (.one Z .cb Zjw kr (.one Z .t Zeu kr .nil)))) r2 qz (qf (Zy (sz:=3) (zs:=[.int .i64 0,.bool false,.slice none 0 0]) (r:=[(0,.tmp 40)]) (l:=[_,_,_]) Ybw kr kr kr kr Z Z (.agg Z .t kr kr .nil) Z) r1 qz (qf (Z1 (sz:=3) (bs:=40) 50 (.mk' Ybw kr kr) (by intro x;rfl) .is (.sl (.conv .t ((entArr (l:=[.int .i64 ((j:Int)+1),.bool true,.arr 1 (([⟨false,7,0,0⟩]:List OpD).flatMap rOp)]) (R:=rTx) (l':=[mkT j]) Z ⟨Zdc.refl,Zdc.refl,Zdc.arrSl (R:=rOp) (l':=[⟨false,7,0,0⟩]) Z Zdl.refl,tv⟩)))) (by simp only [Yp,Yx];omega) (by decide)) ⟨rfl,rfl,tv⟩ ⟨rfl,tv⟩ (qg 1 101 r1 r1 (qf (ZaU 101 .adr kr kr) r2 r1 qZ)))))))))) V [6,5,4,3,2,0] [101,61,51,50,0] (fun _=>rfl) (fun _=>rfl) fun τ a w F O=>?_)))))
  try dsimp only [RS.sub,SF.sub,CF.sub,csub,Anc.sub,List.map,Ze,xL,xM,Nat.reduceAdd,xD,xE,xT,xU,xC,xN,zCF,ldSF,rRt,rSq,Zx,rTx,ZB,Zs,ZG,rOp,Zah] at O
  generalize τ 42=v42 at O
  refine Za (Zb O (qR rr (qR rr (qf (Zy (sz:=1) (zs:=[.int .i64 0]) (r:=[(0,.tmp 45)]) (l:=[_]) Yby kr kr kr kr Z Z (.one Z .t one_int kr .nil) Z) r1 qz (qf (Z1 (sz:=1) (bs:=8) 51 (.mk' Yby kr kr) (by intro x;rfl) .is (.arr (l':=[((j:Int)+1)]) .t) (by simp only [Yp,Yx];omega) (by decide)) ⟨rfl,rfl,tv⟩ ⟨rfl,tv⟩ (qO rr qZ))))) V [6,5,4,3,2,0] [101,61,51,50,0] (fun _=>rfl) (fun _=>rfl) fun τ a w F O=>?_)
  try dsimp only [RS.sub,SF.sub,CF.sub,csub,Anc.sub,List.map,Ze,xL,xM,Nat.reduceAdd,xD,xE,xT,xU,xC,xN,zCF,rRt,rSq,Zx,rTx,ZB,Zs,ZG,rOp,Zah] at O
  generalize τ 47=v47 at O
  refine Zm (Za (rZ O (qR rr (qp r1 (qO rr qZ))) V [6,5,4,3,2,0] [101,61,51,50,0] fun O=>?_))
  replace O:=O.ent (i:=6) (s':=.pv (.int .i64 (((j+1:Nat):Int)+1))) Z (.int (by rw [Zc ow];omega))
  obtain ⟨F,O⟩:=O.nM [4,3,2,0,5,6] [61,0,51,50,101]
  exact ⟨((j+1),_,_,_,_),F,⟨by omega,by rw [hT];exact Zn8 j,by rw [hI];exact Zoc j⟩,O,by omega⟩
 have hjm:j=m:=by simp at hc2;omega
 rw [hT,hI,hjm] at O
 refine Yr (Zj (Zj (Zv (Za (Ya ?_)))))
 obtain ⟨F,O⟩:=O.give 51 5 Z rfl
 obtain ⟨F,O⟩:=O.nM [32,6,5,4,3,2,0] [101,61,50,0]
 refine Zf O (qR rr (qf (oB [(0,_),(1,.tmp 48)] [.int .i64 0,.slice none 0 0] [(0,1),(1,1)] (.one Z qi one_int kr (.one Z .t Zcc kr .nil))) r1 qz (qf (Zy (sz:=2) (zs:=[.int .i64 0,.slice none 0 0]) (r:=[(0,.tmp 49)]) (l:=[_,_]) Ybx kr kr kr kr Z Z (.agg Z .t kr kr .nil) Z) r1 qz (qg 3 101 r1 r1 (qf (Zc2 101 .adr .t Zeu kr kr) r2 r1 qZ))))) V [4,3,2,0] [101,61,50,0] Z Z fun a w F O=>?_
 obtain ⟨F,O⟩:=O.giveCell 50 101 1 Z Z Z Z rfl
 try dsimp only [List.set] at O
 obtain ⟨F,O⟩:=O.nM [4,3,2,0] [101,61,0]
 replace O:=O.turn 101 Z (r':=RS.pt (.val v4) 43 [.pv (.sl rTx []),.pv (.sl rTx (tsN m)),.pv (.sl ZB []),.pv (.sl ZB [⟨7,isN m⟩])]) (Zqp Z Z ⟨Zdc.nilSl,Zdc.refl,Zdc.nilSl,Zdc.arrSl (R:=ZB) (l':=[⟨7,isN m⟩]) Z Zdl.refl,tv⟩)
 obtain ⟨F,O⟩:=O.nM [4,3,2,0] [101,61,0]
 refine Za (Ya (Ya (rZ O (qR rr (qe 4 101 r1 r1 (qf (o_callG1 61 (ZeT b1 (doN hm1 hm0) Zax.zero (dfN hm1) (smN hm1)) func23 Z kr (Args.two .t (.pagg .t))) r2 r1 (qf (o_neq .t qi) r1 qz qZ)))) V [55,3,2,0] [101,61,0] fun O=>?_)))
 refine Zd O Z (fun hc3=>?_) (fun hc3=>?_)
 ·simp at hc3
 refine Yf (Za (Ya (Zf O (qR rr (qf (ZdI qi .t) r1 qz (qp r1 (qO rr qZ)))) V [7,3,2] [101,61,0] Z Z fun a w F O=>?_)))
 replace O:=O.ent (i:=7) (s':=.pv (.int .i64 ((2*m+1:Nat):Int))) Z (.int (by rw [Zc (x:=2*(m:Int)) ow,Zc ow];omega))
 refine Za (Ya (Ya (rZ O (qI qZ) V [8,7,3,2] [101,61,0] fun O=>Ye ?_)))
 replace O:=O.ent (i:=8) (s':=.pv (.int .i64 ((0:Nat):Int))) Z (.int (by rfl))
 refine Zo (σ:=Nat) [2,3,7] [0,101] (fun s=>[(8,.pv (.int .i64 (s:Int)))]) (fun s=>[(61,RS.hp (ZR (.pointer (some ⟨b1,0,none⟩)) (AKn m s)))]) (fun s=>s+1≤q) (fun s=>q - s) (0) O ⟨rfl,rfl,rfl,rfl,tv⟩ ⟨rfl,rfl,rfl,tv⟩ ow ?_
 clear O;intro k a w F hC O
 try dsimp only at hC
 obtain ⟨F,O⟩:=O.nM [8,7,3,2] [101,61,0]
 try dsimp only at O
 have hkq9:=hC
 have hk1:((k:Int)+1)*(2*m+1)≤10000:=mulq hq1 hkq9
 refine Ya (Ya (Zf O (qR rr (qR rr (qf (Zng qi .t ow) r1 qz (qf (o_sub .t qi) r1 qz (qL r2))))) V [63,8,7,3,2] [101,61,0] Z Z fun a w F O=>?_))
 rw [hqd,Zc (x:=(q:Int)) ow,Zc (x:=(q:Int) - 1) ow] at O
 refine Za (Zd O Z (fun hc4=>?_) (fun hc4=>?_))
 ·have hkq:k+1+1≤q:=by simp at hc4;omega
  refine Yf (Za (Ya (Ye (Ya (rZ O (qR rr (qf (o_callG1 61 (ZcW b1 (ZpZ (mulq hq1 hkq)) (okK hm1 hm0 hk1) (Zqr hm1 ow)) func21 Z kr (Args.one .t)) r1 r1 (qR rr (qf (o_extract .t Z) r1 qz (qf (o_extract .t Z) r1 qz (qO rr (qO rr qZ))))))) V [10,9,8,7,3,2] [101,61,0] fun O=>Ya ?_)))))
  refine rZ O (qR rr (qR rr (qf (o_neq .t .t) r2 qz (qR rr (qm Z Z Z Z (qk Z (fun h=>o_neq (.w h) qi) r2 qz (qf (ZaQ .t .t) r2 qz qZ))))))) V [77,8,7,3,2] [101,61,0] fun O=>?_
  refine Zd O Z (fun hc5=>?_) (fun hc5=>?_)
  ·simp at hc5
  refine Yf (Zm (Za (rZ O (qR rr (qp r1 (qO rr qZ))) V [8,7,3,2] [101,61,0] fun O=>?_)))
  replace O:=O.ent (i:=8) (s':=.pv (.int .i64 ((k+1:Nat):Int))) Z (.int (Zl ow))
  obtain ⟨F,O⟩:=O.nM [7,3,2,8] [101,0,61]
  exact ⟨(k+1),F,ow,O,by omega⟩
 have hkq:k+1=q:=by simp at hc4;omega
 obtain ⟨k9,rfl⟩:∃ k9,k=k9+1:=⟨k - 1,by omega⟩
 have hk3:((k9:Int)+2)*(2*m+1)≤10000:=by rw [show (k9:Int)+2=((k9+1:Nat):Int)+1 by omega];exact hk1
 obtain ⟨hkd1,hkd2⟩:=Zqm hk3
 have hg9:((k9:Int)+2)*(2*m+1)=(q:Int)*((2*m+1:Nat):Int):=by rw [show (q:Int)=(k9:Int)+2 by omega];rfl
 have hg8:((k9:Int)+2)*(2*(m:Int)+1)=(q:Int)*(2*(m:Int)+1):=by rw [show (q:Int)=(k9:Int)+2 by omega]
 have hqm:(q:Int)*((2*m+1:Nat):Int)≤10000:=by rw [← hg9];exact hk3
 have hqn:0≤(q:Int)*((2*m+1:Nat):Int):=Int.mul_nonneg ow ow
 refine Yr (Zj (Zj (Zv (Za (Ya (Ya (rZ O (qR rr (qf (o_callG1 61 (ZcW b1 (Znr (mulq2 hq2 hkq)) (okK hm1 hm0 hk1) (Zqr hm1 ow)) func21 Z kr (Args.one .t)) r1 r1 (qR rr (qf (o_extract .t Z) r1 qz (qf (o_extract .t Z) r1 qz (qO rr (qO rr qZ))))))) V [12,7,3,2] [101,61,0] fun O=>Ya ?_)))))))
 refine Zf O (qR rr (qf (o_neq .t qi) r1 qz (qR rr (Zh.cons (Z2.run Z Z ((by rfl)) (ZF .t (by rfl))) r2 qz (Zh.cons (Z2.run Z Z ((by rfl)) (o_callG1 61 (Zeq b1 (ZpH m k9) (okK hm1 hm0 hk1) (Zqr hm1 ow)) func26 Z kr (Args.two .t qi))) r2 r1 (Zh.cons (Z2.run Z Z ((by rfl)) (o_neq .t qi)) r2 qz (qf (ZaQ .t (.conv .t (Ent.sure (by rfl)))) r2 qz qZ))))))) V [89,7,3,2] [101,61,0] Z Z fun a w F O=>?_
 try dsimp only [rRt,rSq,Zx,rTx,ZB,Zs,ZG,rOp,Zah] at O
 refine Za (Zd O Z (fun hc6=>?_) (fun hc6=>?_))
 ·simp at hc6
 refine Yf (Za (Ya (Zf O (qR rr (qf (o_callG1 61 (Zj5 b1 (ADn m k9) (ZqG hm1 hm0 hk3) (ZqE hm1 ow)) func21 Z kr (Args.one .t)) r1 r1 (qR rr (qf (o_extract .t Z) r1 qz (qf (o_extract .t Z) r1 qz (qO rr (qO rr qZ))))))) V [14,13,7,3,2] [101,61,0] Z Z fun a w F O=>?_)))
 rw [hkd1] at O
 dsimp only at O
 refine Za (Ya (Zq O (qR rr (qf (o_eql .t qi) r1 qz (qR rr (Zh.cons (Z2.run Z Z ((by rfl)) (ZF .t (by rfl))) r2 qz (Zh.cons (Z2.run Z Z ((by rfl)) (ZF .t (by rfl))) r2 qz (Zh.cons (Z2.run Z Z ((by rfl)) (Zng qi .t ow)) r2 qz (Zh.cons (Z2.run Z Z ((by rfl)) (o_sub .t qi)) r2 qz (Zh.cons (Z2.run Z Z ((by rfl)) (o_eql .t .t)) r3 qz (qf (ZT .t (.conv .t (Ent.sure (by rfl)))) r2 qz (qR rr (Zh.cons (Z2.run Z Z ((by rw [hqd,Zc (x:=(q:Int)) ow,Zc (x:=(q:Int) - 1) ow];simp;omega)) (ZF .t (by rfl))) r2 qz (Zh.cons (Z2.run Z Z ((by rw [hqd,Zc (x:=(q:Int)) ow,Zc (x:=(q:Int) - 1) ow];simp;omega)) (o_callG1 61 (ZjM b1 (Zbj (ADn m k9)).1 (ZqG hm1 hm0 hk3).keep (ZqS hm1 ow)) func15 Z kr (Args.one .t))) r2 r1 (Zh.cons (Z2.run Z Z ((by rw [hqd,Zc (x:=(q:Int)) ow,Zc (x:=(q:Int) - 1) ow];simp;omega)) (ZF .t (by rfl))) r2 qz (Zh.cons (Z2.run Z Z ((by rw [hqd,Zc (x:=(q:Int)) ow,Zc (x:=(q:Int) - 1) ow];simp;omega)) (Zng qi .t ow)) r2 qz (Zh.cons (Z2.run Z Z ((by rw [hqd,Zc (x:=(q:Int)) ow,Zc (x:=(q:Int) - 1) ow];simp;omega)) (ZF .t (by rfl))) r2 qz (Zh.cons (Z2.run Z Z ((by rw [hqd,Zc (x:=(q:Int)) ow,Zc (x:=(q:Int) - 1) ow];simp;omega)) (ZdI .t .t)) r3 qz (Zh.cons (Z2.run Z Z ((by rw [hqd,Zc (x:=(q:Int)) ow,Zc (x:=(q:Int) - 1) ow];simp;omega)) (o_eql .t .t)) r3 qz (qf (ZT .t (.conv .t (Ent.sure (by rw [hqd,Zc (x:=(q:Int)) ow,Zc (x:=(q:Int) - 1) ow];simp;omega)))) r2 qz (qO rr qZ))))))))))))))))))) V [2] [101,61,0] Z Z fun a w F O=>?_))
 try dsimp only [rRt,rSq,Zx,rTx,ZB,Zs,ZG,rOp,Zah] at O
 try rw [hqd,Zc (x:=(q:Int)) ow,Zc (x:=(q:Int) - 1) ow,hkd2,Zc (x:=(q:Int)*((2*m+1:Nat):Int)) ow] at O
 try (have hg:true=_:=by rfl)
 refine Za (Yi (ZP hfr O Z Z Z (.bool (by first | rfl | (simp;done) | (simp;exact ⟨by omega,hg8⟩)))))
end Go.Proofs.YtfecljadegkmdaaGreat
