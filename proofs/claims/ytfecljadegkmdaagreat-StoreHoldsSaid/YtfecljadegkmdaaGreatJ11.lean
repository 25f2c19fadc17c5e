/- Laws and walks. No condition beyond what each says. -/
import Derived.Test.YtfecljadegkmdaaGreatJ10
namespace Go.Proofs.YtfecljadegkmdaaGreat
open Go Go.Gm Tryz
set_option linter.unusedVariables false
set_option linter.unusedSimpArgs false
set_option maxHeartbeats 4000000
set_option maxRecDepth 8000
section
variable {P:Program} {ps:List (Nat×SF)}
theorem OpC.push {o:Oper} {q:SF} {pr:List (Nat×RS)} {qr:List (Nat×RS)} {n m:Nat} {r:RS} {rs:List RS} (h:OpC P o ⟨ps,(n,RS.hp (.star (r :: rs))) :: pr,q,qr⟩) (hd:r.deps = []) (hmn:m≠n) (hpm:∀ x ∈ pr,x.1≠m∧x.1≠n) (hqm:∀ x ∈ qr,x.1≠m) (hn:n ∈ qr.map (·.1)):OpC P o ⟨ps,(n,RS.hp (.star rs)) :: (m,r) :: pr,q,(m,RS.hp (.star [])) :: qr⟩:=fun a w F K Q hw hs hp ht=>by
 obtain ⟨G,hG⟩:∃ G:Fp,G=fun k b=>(k=n∧(F n b∨F m b))∨(k≠n∧k≠m∧F k b):=⟨_,rfl⟩
 have hGn:∀ b,G n b ↔ F n b∨F m b:=fun b=>by rw [hG];simp
 have hGm:∀ b,¬ G m b:=fun b=>by rw [hG];simp [hmn]
 have hGk:∀ k b,k≠n→k≠m→(G k b ↔ F k b):=fun k b h1 h2=>by rw [hG];simp [h1,h2]
 have hin:∀ k b,G k b → ∃ j,F j b∧(k=n∧(j=n∨j=m)∨k≠n∧k≠m∧j=k):=fun k b hk=>by
  rw [hG] at hk
  rcases hk with ⟨h1,h2 | h2⟩ | ⟨h1,h2,h3⟩
  ·exact ⟨n,h2,.inl ⟨h1,.inl rfl⟩⟩
  ·exact ⟨m,h2,.inl ⟨h1,.inr rfl⟩⟩
  ·exact ⟨k,h3,.inr ⟨h1,h2,rfl⟩⟩
 have hU:U G=U F:=by
  funext b
  refine propext ⟨fun ⟨k,hk⟩=>?_,fun ⟨k,hk⟩=>?_⟩
  ·obtain ⟨j,hj,_⟩:=hin k b hk
   exact ⟨j,hj⟩
  ·by_cases h1:k=n
   ·exact ⟨n,(hGn b).2 (.inl (h1 ▸ hk))⟩
   ·by_cases h2:k=m
    ·exact ⟨n,(hGn b).2 (.inr (h2 ▸ hk))⟩
    ·exact ⟨k,(hGk k b h1 h2).2 hk⟩
 have hw2:Wf G w:=by
  refine ⟨fun i j b hi hj=>?_,fun i b hi=>?_⟩
  ·obtain ⟨i2,h1,h2⟩:=hin i b hi
   obtain ⟨j2,h3,h4⟩:=hin j b hj
   have h5:=hw.dis i2 j2 b h1 h3
   omega
  ·obtain ⟨i2,h1,_⟩:=hin i b hi
   exact hw.bd i2 b h1
 refine h a w G K Q hw2 (by rw [hU];exact hs) (fun x hx=>?_) fun v w' F' h1 h2 h3 h4=>?_
 ·rw [hU]
  rcases Yo.1 hx with rfl | hx
  ·refine ⟨F m,F n,fun b=>(hGn b).trans Or.comm,fun b k1 k2=>hmn (hw.dis m n b k1 k2),hd,RS.closed hd (hp (m,r) (by simp)),hp (n,RS.hp (.star rs)) (by simp)⟩
  ·have h9:=hpm x hx
   have e:G x.1=F x.1:=by funext b;exact propext (hGk x.1 b h9.2 h9.1)
   rw [e];exact hp x (by simp [hx])
 ·have hmW:m ∉ qr.map (·.1):=fun hm=>by
   obtain ⟨x,hx,e⟩:=Yv.1 hm
   exact hqm x hx e
  have hm0:F' m=G m:=h2.fkeep m hmW
  refine ht v w' F' h1 ⟨h2.os,h2.tape,h2.output,h2.size,fun b hb hn9=>h2.keep b hb fun k hk hGb=>?_,fun k hk=>?_,fun k hk b hb=>?_⟩ h3 (fun x hx=>?_)
  ·obtain ⟨j,hj,hc⟩:=hin k b hGb
   refine hn9 j ?_ hj
   show j ∈ m :: qr.map (·.1)
   rcases hc with ⟨_,h5 | h5⟩ | ⟨_,_,h5⟩
   ·rw [h5];exact YA _ hn
   ·rw [h5];exact Yag
   ·rw [h5];exact YA _ hk
  ·have hk2:k≠m∧k ∉ qr.map (·.1):=by
    have:k ∉ m :: qr.map (·.1):=hk
    rw [Yo] at this
    exact ⟨fun e=>this (.inl e),fun e=>this (.inr e)⟩
   have hkn:k≠n:=fun e=>hk2.2 (e ▸ hn)
   rw [h2.fkeep k hk2.2]
   funext b
   exact propext (hGk k b hkn hk2.1)
  ·rcases Yo.1 (show k ∈ m :: qr.map (·.1) from hk) with e | hk
   ·subst e
    rw [hm0] at hb
    exact absurd hb (hGm b)
   ·rcases h2.fnew k hk b hb with ⟨j,hj,hGb⟩ | h5
    ·obtain ⟨j2,hj2,hc⟩:=hin j b hGb
     refine .inl ⟨j2,?_,hj2⟩
     show j2 ∈ m :: qr.map (·.1)
     rcases hc with ⟨_,h5 | h5⟩ | ⟨_,_,h5⟩
     ·rw [h5];exact YA _ hn
     ·rw [h5];exact Yag
     ·rw [h5];exact YA _ hj
    ·exact .inr h5
  ·rcases Yo.1 hx with rfl | hx
   ·show ∀ b,¬ F' m b
    intro b hb
    rw [hm0] at hb
    exact hGm b hb
   ·exact h4 x hx
theorem FnG.pre1 {f:FuncId} {args:List PV} {k1 k2:HP} {q:PV} {qr:Value→List HP} (h:FnG P f 1 args [k1] q qr) (hi:∀ w f y,k2.p w f y→k1.p w f y):FnG P f 1 args [k2] q qr:=fun w F vs hw hle hvs hpr=>h w F vs hw hle hvs (fun i x hx=>by
 match i,hx with
 | 0,hx=>
  simp only [Ya6,Y0] at hx
  subst hx
  exact hi _ _ _ (hpr 0 k2 rfl))
end
theorem ZeA {α:Type} [Inhabited α] {f:α→Int} {l:List α} {i:Nat} (h:i<l.length):(l.map f).take (i+1)=(l.map f).take i ++ [f (Nn l i)]:=by
 rw [Z9 (by rw [YF];exact h),ZE (by rw [YF];exact h),ZE h,Yae]
theorem ZgC {α:Type} [Inhabited α] {f:α→Int} {l:List α} {i:Nat} (t:List Zz) (h:i<l.length):delP (Zcv t ((l.map f).take i)) (f (Nn l i))=Zcv t ((l.map f).take (i+1)):=by rw [ZeA h,ZkY]
theorem Zgt {α:Type} [Inhabited α] {f:α→Int} {l:List α} {i:Nat} (t:List Zz) (n:Int) (h:i<l.length):putP (putsL t n ((l.map f).take i)) (f (Nn l i)) (n+i)=putsL t n ((l.map f).take (i+1)):=by
 rw [ZeA h,Zgr,Yk,YF,YY ow]
theorem ZjK {α:Type} [Inhabited α] [DecidableEq α] {κ:α→Int} {f:Zz→α} {l:List Zz} {was:List α} (hk:∀ p ∈ l,κ (f p)=p.key) (hr:ZY κ was) (hf:Zay κ was (l.map f) = []) {i:Nat} (hi:i<was.length):(getL (κ (Nn was i)) (Zcv l ((was.map κ).take i))).2=true:=by
 cases hg:(getL (κ (Nn was i)) (Zcv l ((was.map κ).take i))).2 with
 | true=>rfl
 | false=>
  exfalso
  have hx:=Z8 hi
  have h1:ZO κ (l.map f) (κ (Nn was i))=some (Nn was i):=by
   refine YaA fun h=>?_
   have:Nn was i ∈ Zay κ was (l.map f):=Y3.2 ⟨hx,by simpa using h⟩
   rw [hf] at this;cases this
  obtain ⟨p,hp,e⟩:=Yv.1 (Zd6 h1).1
  have hpk:p.key=κ (Nn was i):=by rw [← hk p hp,e]
  refine Zjr hg p (ZcG.2 ⟨hp,fun hm=>?_⟩) hpk
  rw [List.mem_take_iff_getElem] at hm
  obtain ⟨j,hj,ej⟩:=hm
  rw [YF] at hj
  rw [Yae] at ej
  have h2:=Y4.1 hr j i ow hi ow
  rw [ej,hpk,ZE hi] at h2
  omega
def wT (A:StA) (d:ZK):List Zz:=Zcv A.now.txs (d.was.map TxD.id)
def wO (A:StA) (d:ZK):List Zz:=Zcv A.now.orders (d.old.map Zr.key)
def ZhE (A:StA) (d:ZK) (z:Int):RtA:=⟨putsL (wT A d) A.all.length (d.now.map TxD.id),putsL (wO A d) A.seqs.length (d.new.map Zr.key),z⟩
def doA (A:StA) (d:ZK):StA×Int:=if (ZN (hiA A) d).2≠0 then (A,(ZN (hiA A) d).2) else if ZaH A - A.now.size+sizeH (ZN (hiA A) d).1 > 10000 then (A,2) else (⟨ZhE A d (sizeH (ZN (hiA A) d).1:Nat),A.snaps,A.next,A.all++d.now,A.seqs++d.new.map Zr.txs⟩,0)
def stA (A:StA) (all':List TxD) (seqs':List (List Int)):StA:=⟨A.now,A.snaps,A.next,A.all++all',A.seqs++seqs'⟩
theorem Zax.grow {A:StA} (h:Zax A) (e:List TxD) (f:List (List Int)):Zax (stA A e f):=
 ⟨h.okn.grow,fun x hx=>⟨(h.oks x hx).1.grow,(h.oks x hx).2⟩,h.ids,by show A.now.size=_;rw [h.szn];exact Yaf (fun x=>((sizeH x:Nat):Int)) (Zgi h.okn).symm,fun x hx=>by rw [h.szs x hx];exact Yaf (fun x=>((sizeH x:Nat):Int)) (Zgi (h.oks x hx).1).symm,h.held,h.next⟩
structure Zi6 (A:StA) (d:ZK):Prop where
 fit:Zba A
 all:A.all.length+d.now.length≤100000
 seqs:A.seqs.length+d.new.length≤100000
 ops:∀ t ∈ d.now,t.ops.length≤1000
 len:∀ o ∈ d.new,o.txs.length≤1000
theorem Zi6.grow {A:StA} {d:ZK} (h:Zi6 A d) (i j:Nat):Zba (stA A (d.now.take i) ((d.new.map Zr.txs).take j)):=by
 refine ⟨h.fit.next,h.fit.snaps,?_,?_,fun l hl=>?_,fun t ht=>?_⟩
 ·show (A.all++d.now.take i).length≤100000
  rw [Yb,Yk];have:=h.all;omega
 ·show (A.seqs++(d.new.map Zr.txs).take j).length≤100000
  rw [Yb,Yk,YF];have:=h.seqs;omega
 ·rcases YJ.1 hl with hl | hl
  ·exact h.fit.len l hl
  ·obtain ⟨o,ho,rfl⟩:=Yv.1 (YaZ hl)
   exact h.len o ho
 ·rcases YJ.1 ht with ht | ht
  ·exact h.fit.ops t ht
  ·exact h.ops t (YaZ ht)
theorem Zfo {f:Zz→Nat} {k v:Int} : ∀ (l:List Zz) (d:Bool),((Zaz k v l d).map f).sum≤(l.map f).sum+if d then 0 else f ⟨k,v⟩
 | [],d=>by cases d <;> simp [Zaz]
 | x :: l,d=>by
  have ht:=Zfo (f:=f) (k:=k) (v:=v) l true
  have hf:=Zfo (f:=f) (k:=k) (v:=v) l false
  rw [Zaz,YL,YL,YaB,YaB,Yy,YaC]
  simp only [Yt,Yn,YaV] at ht hf
  cases d <;> by_cases h1:k≤x.key <;> by_cases h2:x.key=k <;> simp [h1,h2] at * <;> omega
theorem Znd {f:Zz→Nat} {k v:Int} (l:List Zz):((putP l k v).map f).sum≤(l.map f).sum+f ⟨k,v⟩:=by
 have:=Zfo (f:=f) (k:=k) (v:=v) l false
 simpa [putP] using this
theorem ZjX (l:List Zz) (k:Int):(delP l k).length≤l.length:=Yaa _ _
theorem ZoM {f:Zz→Nat} (l:List Zz) (k:Int):((delP l k).map f).sum≤(l.map f).sum:=by
 induction l with
 | nil=>simp [delP]
 | cons x l ih=>
  unfold delP at ih ⊢
  rw [Yau,Yy,YaC]
  split
  ·rw [Yy,YaC];omega
  ·omega
theorem ZfH {seqs f:List (List Int)} {l:List Zz} (h:∀ p ∈ l,0≤p.val∧p.val<seqs.length):Zad (seqs++f) l=Zad seqs l:=by
 unfold Zad
 congr 1
 refine Yar fun p hp=>?_
 have:=h p hp
 rw [Zbi ow]
structure DoOk (A:StA) (r:RtA) (z:Nat):Prop where
 ok:Zax A
 rok:ZiH A.all A.seqs r
 sz:r.txs.length+r.orders.length+Zad A.seqs r.orders≤z
theorem DoOk.size {A:StA} {r:RtA} {z:Nat} (h:DoOk A r z):sizeH (Zbm A.all A.seqs r)≤z:=by rw [← ZaY];exact h.sz
theorem DoOk.delT {A:StA} {r:RtA} {z:Nat} (h:DoOk A r z) (k:Int):DoOk A ⟨delP r.txs k,r.orders,r.size⟩ z:=
 ⟨h.ok,⟨ZeW h.rok.ti,h.rok.oi,fun p hp=>h.rok.tv p (ZdD.1 hp).1,h.rok.ov⟩,by have:=h.sz;have:=ZjX r.txs k;show (delP r.txs k).length+r.orders.length+Zad A.seqs r.orders≤z;omega⟩
theorem DoOk.delO {A:StA} {r:RtA} {z:Nat} (h:DoOk A r z) (k:Int):DoOk A ⟨r.txs,delP r.orders k,r.size⟩ z:=
 ⟨h.ok,⟨h.rok.ti,ZeW h.rok.oi,h.rok.tv,fun p hp=>h.rok.ov p (ZdD.1 hp).1⟩,by have:=h.sz;have:=ZjX r.orders k;have h4:Zad A.seqs (delP r.orders k)≤Zad A.seqs r.orders:=ZoM _ _;show r.txs.length+(delP r.orders k).length+Zad A.seqs (delP r.orders k)≤z;omega⟩
theorem ZdS {α:Type} [Inhabited α] (l:List α) (x:α):Nn (l ++ [x]) l.length=x:=by
 rw [ZE (by simp)];simp
theorem DoOk.putT {A:StA} {r:RtA} {z:Nat} (h:DoOk A r z) (t:TxD):DoOk (stA A [t] []) ⟨putP r.txs t.id A.all.length,r.orders,r.size⟩ (z+1):=by
 refine ⟨h.ok.grow _ _,⟨putP_inc h.rok.ti,h.rok.oi,fun p hp=>?_,fun p hp=>?_⟩,?_⟩
 ·rcases ZdQ.1 hp with h1 | rfl
  ·have h2:=h.rok.tv p h1.1
   refine ⟨⟨h2.1.1,by show p.val<((A.all ++ [t]).length:Nat);rw [Yb];omega⟩,?_⟩
   show (Nn (A.all ++ [t]) _).id=_
   rw [Zbi ow];exact h2.2
  ·refine ⟨⟨by show (0:Int)≤(A.all.length:Nat);omega,by show ((A.all.length:Nat):Int)<((A.all ++ [t]).length:Nat);rw [Yb,Yah];omega⟩,?_⟩
   show (Nn (A.all ++ [t]) (((A.all.length:Nat):Int)).toNat).id=t.id
   rw [Yg,ZdS]
 ·have:=h.rok.ov p hp
  exact ⟨this.1,by show p.val<((A.seqs ++ []).length:Nat);rw [YD];exact this.2⟩
 ·have:=h.sz
  have:=Zkm r.txs t.id A.all.length
  show (putP _ _ _).length+r.orders.length+Zad (A.seqs ++ []) r.orders≤z+1
  rw [YD];omega
theorem DoOk.putO {A:StA} {r:RtA} {z:Nat} (h:DoOk A r z) (k:Int) (l:List Int):DoOk (stA A [] [l]) ⟨r.txs,putP r.orders k A.seqs.length,r.size⟩ (z+1+l.length):=by
 refine ⟨h.ok.grow _ _,⟨h.rok.ti,putP_inc h.rok.oi,fun p hp=>?_,fun p hp=>?_⟩,?_⟩
 ·show (0≤p.val∧p.val<((A.all ++ []).length:Nat))∧(Nn (A.all ++ []) p.val.toNat).id=p.key
  rw [YD];exact h.rok.tv p hp
 ·show 0≤p.val∧p.val<((A.seqs ++ [l]).length:Nat)
  rw [Yb,Yah]
  rcases ZdQ.1 hp with h1 | rfl
  ·have h2:=h.rok.ov p h1.1
   exact ⟨h2.1,by omega⟩
  ·exact ⟨by show (0:Int)≤(A.seqs.length:Nat);omega,by show ((A.seqs.length:Nat):Int)<_;omega⟩
 ·have h1:=h.sz
  have h2:=Zkm r.orders k A.seqs.length
  have h3:=Znd (f:=fun p=>(Nn (A.seqs ++ [l]) p.val.toNat).length) (k:=k) (v:=A.seqs.length) r.orders
  have h4:=ZfH (f:=[l]) h.rok.ov
  have h5:(Nn (A.seqs ++ [l]) (((A.seqs.length:Nat):Int)).toNat).length=l.length:=by rw [Yg,ZdS]
  unfold Zad at h1 h4 ⊢
  show r.txs.length+(putP _ _ _).length+((putP r.orders k A.seqs.length).map fun p=>(Nn (A.seqs ++ [l]) p.val.toNat).length).sum≤_
  simp only at h3
  omega
def stT (A:StA) (d:ZK) (i:Nat):StA:=⟨A.now,A.snaps,A.next,A.all++d.now.take i,A.seqs⟩
def stO (A:StA) (d:ZK) (i:Nat):StA:=⟨A.now,A.snaps,A.next,A.all++d.now,A.seqs++(d.new.map Zr.txs).take i⟩
def rT1 (A:StA) (d:ZK) (z:Int) (i:Nat):RtA:=⟨Zcv A.now.txs ((d.was.map TxD.id).take i),A.now.orders,z⟩
def rT2 (A:StA) (d:ZK) (z:Int) (i:Nat):RtA:=⟨putsL (wT A d) A.all.length ((d.now.map TxD.id).take i),A.now.orders,z⟩
def rO1 (A:StA) (d:ZK) (z:Int) (i:Nat):RtA:=⟨putsL (wT A d) A.all.length (d.now.map TxD.id),Zcv A.now.orders ((d.old.map Zr.key).take i),z⟩
def rO2 (A:StA) (d:ZK) (z:Int) (i:Nat):RtA:=⟨putsL (wT A d) A.all.length (d.now.map TxD.id),putsL (wO A d) A.seqs.length ((d.new.map Zr.key).take i),z⟩
section
variable {A:StA} {d:ZK} {z:Int} {i:Nat}
theorem rT1_next (h:i<d.was.length):rT1 A d z (i+1) = ⟨delP (rT1 A d z i).txs (Nn d.was i).id,(rT1 A d z i).orders,(rT1 A d z i).size⟩:=by unfold rT1;rw [← ZgC _ h]
theorem Zkk (h:i<d.now.length):rT2 A d z (i+1) = ⟨putP (rT2 A d z i).txs (Nn d.now i).id ((A.all.length:Int)+i),(rT2 A d z i).orders,(rT2 A d z i).size⟩:=by unfold rT2;rw [← Zgt _ _ h]
theorem rO1_next (h:i<d.old.length):rO1 A d z (i+1) = ⟨(rO1 A d z i).txs,delP (rO1 A d z i).orders (Nn d.old i).key,(rO1 A d z i).size⟩:=by unfold rO1;rw [← ZgC _ h]
theorem Zj9 (h:i<d.new.length):rO2 A d z (i+1) = ⟨(rO2 A d z i).txs,putP (rO2 A d z i).orders (Nn d.new i).key ((A.seqs.length:Int)+i),(rO2 A d z i).size⟩:=by unfold rO2;rw [← Zgt _ _ h]
theorem rT_join (h:i=d.was.length):rT1 A d z i=rT2 A d z 0:=by
 unfold rT1 rT2 wT
 rw [h,YH (by simp)];rfl
theorem rTO_join (h:i=d.now.length):rT2 A d z i=rO1 A d z 0:=by
 unfold rT2 rO1
 rw [h,YH (by simp)];rfl
theorem rO_join (h:i=d.old.length):rO1 A d z i=rO2 A d z 0:=by
 unfold rO1 rO2 wO
 rw [h,YH (by simp)];rfl
theorem ZmW (h:i=d.new.length):rO2 A d z i=ZhE A d z:=by
 unfold rO2 ZhE
 rw [h,YH (by simp)]
theorem stT_zero:stT A d 0=A:=by unfold stT;rw [List.take_zero,YD]
theorem ZgV (h:i<d.now.length):stT A d (i+1) = ⟨A.now,A.snaps,A.next,(A.all++d.now.take i) ++ [Nn d.now i],A.seqs⟩:=by unfold stT;rw [Z9 h,Ym]
theorem ZlF (h:i<d.now.length):stT A d (i+1)=stA (stT A d i) [Nn d.now i] []:=by rw [ZgV h];unfold stA stT;rw [YD]
theorem stTO_join (h:i=d.now.length):stT A d i=stO A d 0:=by unfold stT stO;rw [h,YM,List.take_zero,YD]
theorem ZhQ (h:i<d.new.length):(d.new.map Zr.txs).take (i+1)=(d.new.map Zr.txs).take i ++ [(Nn d.new i).txs]:=by
 rw [Z9 (by rw [YF];exact h),ZE (by rw [YF];exact h),ZE h,Yae]
theorem ZnW (h:i<d.new.length):stO A d (i+1) = ⟨A.now,A.snaps,A.next,A.all++d.now,(A.seqs++(d.new.map Zr.txs).take i) ++ [(Nn d.new i).txs]⟩:=by unfold stO;rw [ZhQ h,Ym]
theorem Zi1 (h:i<d.new.length):stO A d (i+1)=stA (stO A d i) [] [(Nn d.new i).txs]:=by rw [ZnW h];unfold stA stO;rw [YD]
theorem stT_len (h:i≤d.now.length):(stT A d i).all.length=A.all.length+i:=by unfold stT;rw [Yb,Yk,YY h]
theorem ZgU (h:i≤d.new.length):(stO A d i).seqs.length=A.seqs.length+i:=by unfold stO;rw [Yb,Yk,YF,YY h]
theorem Zkt (h:i=d.new.length):stO A d i = ⟨A.now,A.snaps,A.next,A.all++d.now,A.seqs++d.new.map Zr.txs⟩:=by unfold stO;rw [h,YH (by simp)]
theorem ZoE (h:Zi6 A d):Zba (stT A d i):=by
 have:=h.grow i 0
 unfold stA at this
 rw [List.take_zero,YD] at this
 exact this
theorem ZiB (h:Zi6 A d):Zba (stO A d i):=by
 have:=h.grow d.now.length i
 rw [YM] at this
 exact this
theorem DoOk.start (h:Zax A) (z:Int):DoOk A (rT1 A d z 0) (sizeH (hiA A)):=⟨h,⟨h.okn.ti,h.okn.oi,h.okn.tv,h.okn.ov⟩,by have:=ZaY A.all A.seqs A.now;unfold hiA;show A.now.txs.length+A.now.orders.length+Zad A.seqs A.now.orders≤_;omega⟩
theorem DoOk.growT {r:RtA} {y:Nat} (h:DoOk (stT A d i) r y) (hi:i<d.now.length):DoOk (stT A d (i+1)) r y:=by
 rw [ZlF hi]
 exact ⟨h.ok.grow _ _,h.rok.grow,by show r.txs.length+r.orders.length+Zad ((stT A d i).seqs ++ []) r.orders≤y;rw [YD];exact h.sz⟩
theorem DoOk.growO {r:RtA} {y:Nat} (h:DoOk (stO A d i) r y) (hi:i<d.new.length):DoOk (stO A d (i+1)) r y:=by
 rw [Zi1 hi]
 exact ⟨h.ok.grow _ _,h.rok.grow,by show r.txs.length+r.orders.length+Zad ((stO A d i).seqs ++ [_]) r.orders≤y;rw [ZfH h.rok.ov];exact h.sz⟩
theorem DoOk.nextT {y:Nat} (h:DoOk (stT A d i) (rT2 A d z i) y) (hi:i<d.now.length):DoOk (stT A d (i+1)) (rT2 A d z (i+1)) (y+1):=by
 have:=h.putT (Nn d.now i)
 rw [← ZlF hi,stT_len ow] at this
 rw [Zkk hi]
 have e:((A.all.length+i:Nat):Int)=(A.all.length:Int)+i:=by omega
 rw [e] at this;exact this
theorem DoOk.nextO {y:Nat} (h:DoOk (stO A d i) (rO2 A d z i) y) (hi:i<d.new.length):DoOk (stO A d (i+1)) (rO2 A d z (i+1)) (y+1+(Nn d.new i).txs.length):=by
 have:=h.putO (Nn d.new i).key (Nn d.new i).txs
 rw [← Zi1 hi,ZgU ow] at this
 rw [Zj9 hi]
 have e:((A.seqs.length+i:Nat):Int)=(A.seqs.length:Int)+i:=by omega
 rw [e] at this;exact this
end
theorem Zcb {g:ZS} {d:ZK} (h:(ZN g d).2=0):(Zat g∧ZcH d)∧ZfA g d=true∧Zat (Zcd g d)∧(ZN g d).1=Zcd g d:=by
 unfold ZN at h ⊢
 by_cases h1:Zat g∧ZcH d
 ·rw [Yc (Decidable.not_not.2 h1)] at h ⊢
  by_cases h2:ZfA g d=false
  ·rw [Yd h2] at h;exact absurd h (by decide)
  ·rw [Yc h2] at h ⊢
   by_cases h3:Zat (Zcd g d)
   ·rw [Yd h3];exact ⟨h1,by simpa using h2,h3,rfl⟩
   ·rw [Yc h3] at h;exact absurd h (by decide)
 ·rw [Yd h1] at h;exact absurd h (by decide)
theorem Zge {α:Type} [DecidableEq α] {κ:α→Int} {l was now:List α} (h:ZaV κ l was now=true):Zay κ was l = []:=by
 unfold ZaV at h
 rw [Yu,Yj] at h
 exact h.1
theorem ZqN {A:StA} (h:Zax A):∀ p ∈ A.now.txs,TxD.id (Nn A.all p.val.toNat)=p.key:=fun p hp=>(h.okn.tv p hp).2
theorem ZoX {A:StA} {d:ZK} (hk:Zax A) (h:(ZN (hiA A) d).2=0) {z:Int} {i:Nat} (hi:i<d.was.length):(getL (Nn d.was i).id (rT1 A d z i).txs).2=true:=by
 obtain ⟨⟨_,h1,_⟩,h2,_⟩:=Zcb h
 unfold ZfA at h2
 rw [Yu] at h2
 exact ZjK (κ:=TxD.id) (f:=fun p=>Nn A.all p.val.toNat) (ZqN hk) h1 (Zge h2.1) hi
theorem Zo4 {A:StA} {d:ZK} (hk:Zax A) (h:(ZN (hiA A) d).2=0) {z:Int} {i:Nat} (hi:i<d.old.length):(getL (Nn d.old i).key (rO1 A d z i).orders).2=true:=by
 obtain ⟨⟨_,_,_,h1,_⟩,h2,_⟩:=Zcb h
 unfold ZfA at h2
 rw [Yu] at h2
 exact ZjK (κ:=Zr.key) (f:=fun p=>(⟨p.key,Nn A.seqs p.val.toNat⟩:Zr)) (fun p _=>rfl) h1 (Zge h2.2) hi
theorem ZmG {α:Type} {κ:α→Int} {f:α→Nat} {l m:List α} : (m.map f).sum≤((Z7 κ (l++m)).map f).sum:=by
 have h:=((Zan (κ:=κ) (l++m)).map f).sum_nat
 rw [h,YL,YaB];omega
theorem Zno (g:ZS) (d:ZK):d.now.length+d.new.length+Zbd d.new≤sizeH (Zcd g d):=by
 have h1:d.now.length≤(Zcd g d).txs.length:=by
  show _≤(Z7 _ _).length
  rw [ZbZ,Yb];omega
 have h2:d.new.length≤(Zcd g d).orders.length:=by
  show _≤(Z7 _ _).length
  rw [ZbZ,Yb];omega
 have h3:Zbd d.new≤Zbd (Zcd g d).orders:=ZmG
 unfold sizeH;omega
theorem ZkD (l:List Zr) (i:Nat):Zbd (l.take i)≤Zbd l:=by
 have h:l=l.take i++l.drop i:=(Y2 i l).symm
 have e:Zbd l=Zbd (l.take i)+Zbd (l.drop i):=by
  conv=>lhs;rw [h]
  unfold Zbd
  rw [YL,YaB]
 omega
theorem Znk {A:StA} {d:ZK} (hk:Zax A) (h:(ZN (hiA A) d).2=0) (z:Int):Zbm (A.all++d.now) (A.seqs++d.new.map Zr.txs) (ZhE A d z)=(ZN (hiA A) d).1:=by
 obtain ⟨⟨hr,h1,h1n,h3,h3n⟩,h2,_,h4⟩:=Zcb h
 rw [h4]
 unfold ZfA at h2
 rw [Yu] at h2
 have eT:(hiA A).txs=A.now.txs.map fun p=>Nn (A.all++d.now) p.val.toNat:=by
  unfold hiA Zbm
  refine Yar fun p hp=>?_
  have:=(hk.okn.tv p hp).1
  rw [Zbi ow]
 have eO:(hiA A).orders=A.now.orders.map fun p=>(⟨p.key,Nn (A.seqs++d.new.map Zr.txs) p.val.toNat⟩:Zr):=by
  unfold hiA Zbm
  refine Yar fun p hp=>?_
  have:=hk.okn.ov p hp
  rw [Zbi ow]
 have hT:=Zit (κ:=TxD.id) (f:=fun p=>Nn (A.all++d.now) p.val.toNat) (l:=A.now.txs) hk.okn.ti (fun p hp=>by
  have:=hk.okn.tv p hp
  show (Nn (A.all++d.now) p.val.toNat).id=p.key
  rw [Zbi ow];exact this.2) (was:=d.was) (now:=d.now) (n:=A.all.length) (fun j hj=>by
  show Nn (A.all++d.now) (((A.all.length:Nat):Int)+j).toNat=_
  rw [show (((A.all.length:Nat):Int)+j).toNat=A.all.length+j by omega,ZE (by rw [Yb];omega),ZE hj,List.getElem_append_right ow]
  congr 1;omega) h1n (by rw [← eT];exact h2.1)
 have hO:=Zit (κ:=Zr.key) (f:=fun p=>(⟨p.key,Nn (A.seqs++d.new.map Zr.txs) p.val.toNat⟩:Zr)) (l:=A.now.orders) hk.okn.oi (fun p hp=>rfl) (was:=d.old) (now:=d.new) (n:=A.seqs.length) (fun j hj=>by
  have e9:Nn (A.seqs++d.new.map Zr.txs) (((A.seqs.length:Nat):Int)+j).toNat=(Nn d.new j).txs:=by
   rw [show (((A.seqs.length:Nat):Int)+j).toNat=A.seqs.length+j by omega,ZE (by rw [Yb,YF];omega),ZE hj,List.getElem_append_right ow,Yae]
   congr 2;omega
  show (⟨_,Nn (A.seqs++d.new.map Zr.txs) (((A.seqs.length:Nat):Int)+j).toNat⟩:Zr)=_
  rw [e9]) h3n (by rw [← eO];exact h2.2)
 unfold Zbm Zcd ZhE wT wO
 rw [eT,eO,← hT,← hO]
theorem Zac.turn {A:StA} {r:RtA} {s:StC} {c:RtC} (h:Zac A [r] s) (hr:Zbs s.q (arV (some s.b)) c r):Zac ⟨r,A.snaps,A.next,A.all,A.seqs⟩ [] ⟨s.b,s.q,c,s.cs,s.ck,s.mv,s.alv,s.sqv,s.sr⟩:=
 ⟨hr,h.keys,h.snaps,h.len,fun i hi hl=>h.seqs i hi (hl.mono fun r1 hr1=>by
  simp only [rootsA,YD,Yo,YO,YJ,Yat,YaS] at hr1 ⊢
  rcases hr1 with rfl | hr1
  ·exact .inr (.inr rfl)
  ·exact .inr (.inl hr1))⟩
theorem Zax.doA {A:StA} (h:Zax A) (d:ZK) (hr:∀ z,(ZN (hiA A) d).2=0→ZiH (A.all++d.now) (A.seqs++d.new.map Zr.txs) (ZhE A d z)):Zax (doA A d).1:=by
 unfold Go.Proofs.YtfecljadegkmdaaGreat.doA
 split
 ·exact h
 ·rename_i h1
  split
  ·exact h
  ·rename_i h2
   have h0:(ZN (hiA A) d).2=0:=Decidable.not_not.1 h1
   have hg:=h.grow d.now (d.new.map Zr.txs)
   refine ⟨hr _ h0,hg.oks,h.ids,?_,hg.szs,?_,h.next⟩
   ·show (((sizeH (ZN (hiA A) d).1:Nat)):Int)=_
    exact Yaf (fun x=>((sizeH x:Nat):Int)) (Znk h h0 _).symm
   ·unfold ZaH at h2 ⊢
    show (((sizeH (ZN (hiA A) d).1:Nat)):Int)+(A.snaps.map fun x=>x.2.size).sum≤10000
    omega
section
variable {P:Program} {d:Option Nat} {ty:TypeId} {pos:String} {af:Array Edge} {g:Option (Nat×Bool)} {x:Operand} {ps:List (Nat×SF)}
theorem ZdN {s:TypeId} {f off b:Nat} (hx:Opd x ps (.pv (.is (.pointer (some ⟨b,0,none⟩))))) (ho:P.fieldOff s f=some off) :
  OpC P ⟨d,.fieldAddr s x f,ty,pos,af,g⟩ ⟨ps,[],.adr (.val (.pointer (some ⟨b,0,none⟩))) off,[]⟩:=
 OpC.pure fun a w yy hp=>by
  obtain ⟨e1,_⟩:=hx a w yy hp
  exact ⟨.pointer (some ⟨b,0+off,none⟩),by simp [execOp,e1,ZbH ho],fun τ _=>rfl⟩
end
theorem ZqL (b:Nat) {q:List Cell} (l:List Int) (hr:q.length+l.length≤65536) :
  ∃ (e:List Cell) (r:Int),FnG prog 65 1 [.is (arV (some b)),.sl ZG l] [arH (some b) 65536 q] (.tup [.agg [.is (arV (some b)),.int .i64 r],.int .i64 0]) (fun _=>[arH (some b) 65536 (q++e)])∧ZaT (q++e) r l:=by
 obtain ⟨e,r,h1,h2,h3⟩:=ZaT.of (room:=65536) (q:=q) (l:=l) ow ow
 have:=ZpB (some b) 65536 q l
 rw [h1] at this
 exact ⟨e,r,this,h2⟩
theorem Zac.addTx {A:StA} {ex:List RtA} {s:StC} (h:Zac A ex s) (e:List TxD) (v:Value):Zac ⟨A.now,A.snaps,A.next,A.all++e,A.seqs⟩ ex ⟨s.b,s.q,s.c,s.cs,s.ck,s.mv,v,s.sqv,s.sr⟩:=⟨h.now,h.keys,h.snaps,h.len,h.seqs⟩
theorem Zac.addSeq {A:StA} {r:RtA} {s:StC} (h:Zac A [r] s) (l:List Int) (e:List Cell) (c:SqC) (hc:c.av=arV (some s.b)∧ZaT (s.q++e) c.root l) (hk:Zax A) (hov:∀ p ∈ r.orders,0≤p.val∧p.val<A.seqs.length) (v:Value):Zac (stA A [] [l]) [r] ⟨s.b,s.q++e,s.c,s.cs,s.ck,s.mv,s.alv,v,s.sr ++ [c]⟩:=by
 have hl:=h.len
 refine ⟨h.now.app,h.keys,fun x hx=>by obtain ⟨c,hc,hr⟩:=h.snaps x hx;exact ⟨c,hc,hr.app⟩,by show (s.sr ++ [c]).length=(A.seqs ++ [l]).length;rw [Yb,Yb,hl];rfl,fun i hi hlv=>?_⟩
 have hi:i<(A.seqs ++ [l]).length:=hi
 rw [Yb,Yah] at hi
 show (Nn (s.sr ++ [c]) i).av=_∧ZaT (s.q++e) (Nn (s.sr ++ [c]) i).root (Nn (A.seqs ++ [l]) i)
 by_cases h1:i=A.seqs.length
 ·rw [h1,ZdS]
  conv=>enter [1];rw [← hl,ZdS]
  conv=>enter [2,2];rw [← hl,ZdS]
  exact hc
 ·have hlt:i<A.seqs.length:=by omega
  rw [Zbi hlt,Zbi (show i<s.sr.length by omega)]
  have hlv2:ZbN (rootsA A ++ [r]) A.seqs.length i:=by
   rcases hlv with h2 | h2
   ·exact .inl h2
   ·have h2:i+1=(A.seqs ++ [l]).length:=h2
    rw [Yb,Yah] at h2
    omega
  have h3:=h.seqs i hlt hlv2
  exact ⟨h3.1,h3.2.app⟩
theorem Zna {A:StA} {r:RtA} (h:r.orders=A.now.orders) {n i:Nat} (hl:ZbN (rootsA A ++ [r]) n i):ZbN (rootsA A ++ []) n i:=by
 rcases hl with ⟨r1,hr1,p,hp,e⟩ | h1
 ·rcases YJ.1 hr1 with h2 | h2
  ·exact .inl ⟨r1,Yai _ h2,p,hp,e⟩
  ·rw [Yl] at h2
   subst h2
   exact .inl ⟨A.now,by simp [rootsA],p,h ▸ hp,e⟩
 ·exact .inr h1
theorem Zp5 (b:Nat) (A:StA) (d:ZK) (hok:Zax A) (hdf:Zi6 A d) (hsd:ZbI (hiA A) d):FnG prog 23 1 [.is (.pointer (some ⟨b,0,none⟩)),.agg (Zah d)] [ZR (.pointer (some ⟨b,0,none⟩)) A] (.int .i64 (doA A d).2) (fun _=>[ZR (.pointer (some ⟨b,0,none⟩)) (doA A d).1]):=by
 refine FnG.mk func23 Z ntmps23 Z kr fun B F0 a w F V hG O=>?_
 have hdl1:d.was.length≤1000:=hsd.2.1.1.1.1
 have hdl2:d.now.length≤1000:=hsd.2.1.2.1.1
 have hdl3:d.old.length≤1000:=hsd.2.1.1.2.1
 have hdl4:d.new.length≤1000:=hsd.2.1.2.2.1
 refine Ya (Zb O (qx 101 r1 (qI qZ)) V [4,3,0] [101,1,0] (fun _=>rfl) (fun _=>rfl) fun τ a w F O=>?_)
 try dsimp only [RS.sub,SF.sub,CF.sub,csub,Anc.sub,List.map,zCF,rRt,rSq,Zx,rTx,ZB,Zs,ZG,rOp,Zah] at O
 generalize τ 3=v3 at O
 refine Za (Ya (Ya (rZ O (qR rr (qf (Z3 _ YbB Z .t) r1 qz qZ)) V [19,4,3,0] [101,1,0] fun O=>?_)))
 refine Zd O Z (fun hc0=>?_) (fun hc0=>?_)
 ·simp at hc0
 refine Yf (Za (Ya (Zau O (qR rr (qf (o_callG1 1 (Zj0 b A hok hdf.fit) func14 Z kr (Args.one .t)) r1 r1 (qe 4 101 r1 r1 (qf (oP (Znx (hiA A) d hsd) func60 (Args.two .t (.pagg .t))) r2 qz (qR rr (qf (o_extract .t Z) r1 qz (qf (o_extract .t Z) r1 qz (qf (oH [.slice none 0 0,.slice none 0 0] 102) trivial qz (qf (oA 2 102 .same (.conv .t .agg)) r2 r1 (qO rr qZ)))))))))) V [6,5,4,3,0] [102,101,1,0] (fun _=>rfl) (fun _=>rfl) fun τ a w F O=>?_)))
 try dsimp only [RS.sub,SF.sub,CF.sub,csub,Anc.sub,List.map,Ze,xL,xM,Nat.reduceAdd,xD,xE,xT,xU,xC,xN,zCF,ldSF,rRt,rSq,Zx,rTx,ZB,Zs,ZG,rOp,Zah] at O
 generalize τ 5=v5 at O
 refine Za (Ya (Ye (Ya (rZ O (qR rr (qf (o_neq .t qi) r1 qz (qO rr qZ))) V [27,6,5,4,3,0] [102,101,1,0] fun O=>?_))))
 refine Zd O Z (fun hc1=>?_) (fun hc1=>?_)
 ·have hne:(ZN (hiA A) d).2≠0:=by simpa using hc1
  have hg:doA A d=(A,(ZN (hiA A) d).2):=by unfold doA;rw [Yd hne]
  refine Ya (rZ O (qR rr (qO rr qZ)) V [5,4,3,0] [102,101,1,0] fun O=>(Yi (ZC (Zk ?_))))
  have O:=O.turn 1 Z (r':=RS.hp (ZR (.pointer (some ⟨b,0,none⟩)) (doA A d).1)) (fun _ _ _ _ h=>by rw [hg];exact h)
  obtain ⟨F,O⟩:=O.nM [4] [1,0]
  refine ZA hG O Z (.tmp Z .nil) (.one (.int (by rw [hg]))) rfl
 have h0:(ZN (hiA A) d).2=0:=by simpa using hc1
 have hsm:Zel (ZN (hiA A) d).1:=by rw [(Zcb h0).2.2.2];exact hsd.2.2
 have hzs:=Zno (hiA A) d
 rw [← (Zcb h0).2.2.2] at hzs
 have hnl9:=hok.now_le
 have hs09:sizeH (hiA A)≤10000:=hok.now_le
 have hfit:=hdf.fit
 obtain ⟨sc,O⟩:=O.open_ex 1 rfl
 obtain ⟨hk,O⟩:=O.open_and 1 rfl
 obtain ⟨F,O⟩:=O.peel 1 2 Z rfl
 obtain ⟨F,O⟩:=O.peel 1 3 Z rfl
 obtain ⟨F,O⟩:=O.peel 1 4 Z rfl
 obtain ⟨F,O⟩:=O.peel 1 5 Z rfl
 obtain ⟨F,O⟩:=O.peel 1 6 Z rfl
 try dsimp only at O
 obtain ⟨F,O⟩:=O.nM [27,6,5,4,3,0] [102,101,6,5,4,3,2,0]
 have hka:=hk.now.a
 have hks:=hk.now.s
 have hhb:=hok.held
 have hnz:=hok.szn
 have hnl:=hok.now_le
 have hnx:=hok.next
 have hnf:=hfit.next
 have hhn:0≤ZaH A:=by have:=Zcl hok.nn;unfold ZaH;omega
 have hsz9:sizeH (ZN (hiA A) d).1≤2000000:=by have h1:=hsm.1.1;have h2:=hsm.2.1;have h3:=Zn4 hsm.2.2;unfold sizeH;omega
 refine Ya (Zq O (qR rr (qf (OpC.still (ZgQ (cells:=[.pv _,.pv _,.pv _,.pv _,.pv _,.pv _,.pv _,.pv _,.pv _,.pv _]) (cells':=[.pv _,.pv _,.pv _,.pv _,.pv _,.pv _,.pv _,.pv _,.pv _,.pv _]) 2 4 Z Z (ZfI b A hok hdf.fit sc hk) func15 Z kr Z (Args.one .t)) (ZfJ Zhb (ZfD Zhc))) r1 r2 (qR rr (qf (o_nilCheck 2 .is (by rfl)) r1 r1 (qf (oF 1 2 .adr) r1 r1 (qf (oF 4 2 .adr) r1 r1 (qa 2 r1 r1 (qf (o_sub .t .t) r2 qz (qe 2 102 r1 r1 (qf (oP (Zl5 (ZN (hiA A) d).1 hsm) func61 (Args.one (.pagg .t))) r1 qz (qf (o_add .t .t) r2 qz (qf (Zas .t qi) r1 qz (qO rr qZ))))))))))))) V [31,5,4,3,0] [102,101,6,5,4,3,2,0] Z Z fun a w F O=>?_)
 try dsimp only [List.map,xD,xE,xT,xU,ldSF,rRt,rSq,Zx,rTx,ZB,Zs,ZG,rOp,Zah] at O
 refine Za (Zd O Z (fun hc2=>?_) (fun hc2=>?_))
 ·have hg:doA A d=(A,2):=by unfold doA;rw [Yc ow,Yd];rw [hks,Zc (x:=ZaH A - A.now.size) ow,Zc ow] at hc2;simpa using hc2
  refine Ya (rZ O (qI qZ) V [5,4,3,0] [102,101,6,5,4,3,2,0] fun O=>(Yi (ZC (Zk ?_))))
  have O:=O.fresh 1 rfl
  obtain ⟨F,O⟩:=O.push 1 6 Z Z Z kr
  obtain ⟨F,O⟩:=O.push 1 5 Z Z Z kr
  obtain ⟨F,O⟩:=O.push 1 4 Z Z Z kr
  obtain ⟨F,O⟩:=O.push 1 3 Z Z Z kr
  obtain ⟨F,O⟩:=O.push 1 2 Z Z Z kr
  have O:=O.turn 1 Z (r':=RS.hp (ZR (.pointer (some ⟨b,0,none⟩)) (doA A d).1)) (fun _ _ _ _ h=>⟨sc,(by rw [hg];exact hk),(by rw [hg];exact h)⟩)
  obtain ⟨F,O⟩:=O.nM [5,4,3,0] [102,101,1,0]
  refine ZA hG O Z (.tmp Z .nil) (.one (.int (by rw [hg]))) rfl
 have hle9:ZaH A - A.now.size+((sizeH (ZN (hiA A) d).1:Nat):Int)≤10000:=by rw [hks,Zc (x:=ZaH A - A.now.size) ow,Zc ow] at hc2;simpa using hc2
 have hg:doA A d=(⟨ZhE A d ((sizeH (ZN (hiA A) d).1:Nat):Int),A.snaps,A.next,A.all++d.now,A.seqs++d.new.map Zr.txs⟩,0):=by unfold doA;rw [Yc ow,Yc ow]
 have hnn9:A.now.size≤ZaH A:=by have:=Zcl hok.nn;unfold ZaH;omega
 refine Yf (Zm (Za (Ya (Zb O (qR rr (qf (o_nilCheck 2 .is (by rfl)) r1 r1 (qf (oF 1 2 .adr) r1 r1 (qf (oL true 5 2 .adr) r1 r1 (qf (oH [.pointer none,.int .i64 0,.pointer none,.int .i64 0,.int .i64 0] 103) trivial qz (qS 5 103 r2 r1 qZ)))))) V [7,5,4,3,0] [103,102,101,6,5,4,3,2,0] (fun _=>rfl) (fun _=>rfl) fun τ a w F O=>?_))))
 try dsimp only [RS.sub,SF.sub,CF.sub,csub,Anc.sub,List.map,Ze,xL,xM,Nat.reduceAdd,xD,xE,xT,xU,xC,xN,zCF,ldSF,rRt,rSq,Zx,rTx,ZB,Zs,ZG,rOp,Zah] at O
 generalize τ 7=v7 at O
 obtain ⟨wb,rfl⟩:=O.shape 103 rfl
 obtain ⟨F,O⟩:=O.nM [7,5,4,3,0] [103,102,101,6,5,4,3,2,0]
 refine Za (Ya (Zf O (qe 2 102 r1 r1 (qf (oP (Zl5 (ZN (hiA A) d).1 hsm) func61 (Args.one (.pagg .t))) r1 qz (qg 4 103 r1 r1 (qf (Zc2 103 .adr .t one_int kr kr) r2 r1 qZ)))) V [7,4,3,0] [103,102,101,6,5,4,3,2,0] Z Z fun a w F O=>?_))
 have O:=O.fresh 1 rfl
 obtain ⟨F,O⟩:=O.push 1 103 Z Z Z kr
 obtain ⟨F,O⟩:=O.push 1 6 Z Z Z kr
 obtain ⟨F,O⟩:=O.push 1 5 Z Z Z kr
 obtain ⟨F,O⟩:=O.push 1 4 Z Z Z kr
 obtain ⟨F,O⟩:=O.push 1 3 Z Z Z kr
 obtain ⟨F,O⟩:=O.push 1 2 Z Z Z kr
 have O:=O.turn 1 Z (r':=RS.hp (Za1 (.pointer (some ⟨b,0,none⟩)) (.pointer (some ⟨wb,0,none⟩)) A (rT1 A d ((sizeH (ZN (hiA A) d).1:Nat):Int) 0))) (fun _ _ _ _ h=>⟨(sc,⟨arV (some sc.b),sc.c.tr,sc.c.or,((sizeH (ZN (hiA A) d).1:Nat):Int)⟩),⟨hk.exMono (fun i hl=>Zna (r:=rT1 A d ((sizeH (ZN (hiA A) d).1:Nat):Int) 0) Z hl),⟨rfl,hk.now.t,hk.now.o,rfl⟩⟩,h⟩)
 obtain ⟨F,O⟩:=O.nM [7,4,3,0] [102,101,1,0]
 refine Za (Ya (Ya (rZ O (qg 0 101 r1 r1 (qa 101 r1 r1 (qu Ybw r1 (qJ qZ)))) V [54,53,52,7,4,3,0] [102,101,1,0] fun O=>Ye ?_)))
 refine Zo (σ:=(Nat)) [0,3,4,7,52,53] [0,101,102] (fun s=>[(54,.pv (.int .i64 (s:Int)))]) (fun s=>[(1,RS.hp (Za1 (.pointer (some ⟨b,0,none⟩)) (.pointer (some ⟨wb,0,none⟩)) A (rT1 A d ((sizeH (ZN (hiA A) d).1:Nat):Int) s)))]) (fun s=>s≤d.was.length∧(DoOk A (rT1 A d ((sizeH (ZN (hiA A) d).1:Nat):Int) s) (sizeH (hiA A)))) (fun s=>d.was.length - s) (0) O ⟨rfl,rfl,rfl,rfl,rfl,rfl,rfl,tv⟩ ⟨rfl,rfl,rfl,rfl,tv⟩ ⟨Yz _,DoOk.start hok _⟩ ?_
 clear O;intro i a w F hC O
 try dsimp only at hC
 obtain ⟨F,O⟩:=O.nM [54,53,52,7,4,3,0] [102,101,1,0]
 try dsimp only at O
 obtain ⟨hi,hq⟩:=hC
 have hD:=hq
 refine Ya (rZ O (qL r2) V [55,54,53,52,7,4,3,0] [102,101,1,0] fun O=>Ya ?_)
 refine Zd O Z (fun hc3=>?_) (fun hc3=>?_)
 ·have hil:i<d.was.length:=by simp at hc3;omega
  refine Yf (Za (Ya (Ye (Ya (Zb O (qy 3 Ybw r2 (qf (oR true 3 .t) r1 qz (qf (oH [.int .i64 0,.bool false,.slice none 0 0] 104) trivial qz (qS 3 104 r2 r1 qZ)))) V [54,53,52,9,7,4,3,0] [104,102,101,1,0] (fun _=>rfl) (fun _=>rfl) fun τ a w F O=>?_)))))
  try dsimp only [RS.sub,SF.sub,CF.sub,csub,Anc.sub,List.map,Ze,xL,xM,Nat.reduceAdd,xD,xE,xT,xU,xC,xN,zCF,ldSF,rRt,rSq,Zx,rTx,ZB,Zs,ZG,rOp,Zah] at O
  generalize τ 9=v9 at O
  try simp only [Yg] at O
  refine Za (Zf O (qR rr (qf (ZdN (off:=0) .t kr) r1 qz (qg 0 104 r1 r1 (qa 104 r1 r1 (qf (o_callG1 1 (Zlr b wb A hok hdf.fit (rT1 A d ((sizeH (ZN (hiA A) d).1:Nat):Int) i) hD.rok (Yac hD.size ow) (Nn d.was i).id (ZoX hok h0 hil)) func62 Z kr (Args.four .t .t (.conv .t ((Ent.adrK (by rfl)))) .t)) r4 r1 qZ))))) V [54,53,52,7,4,3,0] [104,102,101,1,0] Z Z fun a w F O=>?_)
  rw [← rT1_next hil] at O
  refine Zm (Za (rZ O (qp r1 (qR rr qZ)) V [54,53,52,7,4,3,0] [104,102,101,1,0] fun O=>?_))
  replace O:=O.ent (i:=54) (s':=.pv (.int .i64 ((i+1:Nat):Int))) Z (.int (Zl ow))
  obtain ⟨F,O⟩:=O.nM [53,52,7,4,3,0,54] [102,101,0,1]
  exact ⟨(i+1),F,⟨by omega,(by rw [rT1_next hil];exact hD.delT _)⟩,O,by omega⟩
 have hil:i=d.was.length:=by simp at hc3;omega
 refine Yr (Zj (Zj (Zv (Za (Ya (Ya (rZ O (qg 1 101 r1 r1 (qa 101 r1 r1 (qu Ybw r1 (qJ qZ)))) V [67,66,65,7,4,3,0] [102,101,1,0] fun O=>Ye ?_)))))))
 replace O:=O.turn 1 Z (r':=RS.hp (Za1 (.pointer (some ⟨b,0,none⟩)) (.pointer (some ⟨wb,0,none⟩)) (stT A d 0) (rT2 A d ((sizeH (ZN (hiA A) d).1:Nat):Int) 0))) (fun _ _ _ _ h=>by rw [stT_zero,← rT_join hil];exact h)
 refine Zo (σ:=(Nat)) [0,3,4,7,65,66] [0,101,102] (fun s=>[(67,.pv (.int .i64 (s:Int)))]) (fun s=>[(1,RS.hp (Za1 (.pointer (some ⟨b,0,none⟩)) (.pointer (some ⟨wb,0,none⟩)) (stT A d s) (rT2 A d ((sizeH (ZN (hiA A) d).1:Nat):Int) s)))]) (fun s=>s≤d.now.length∧(DoOk (stT A d s) (rT2 A d ((sizeH (ZN (hiA A) d).1:Nat):Int) s) (sizeH (hiA A)+s))) (fun s=>d.now.length - s) (0) O ⟨rfl,rfl,rfl,rfl,rfl,rfl,rfl,tv⟩ ⟨rfl,rfl,rfl,rfl,tv⟩ ⟨Yz _,(by rw [stT_zero,← rT_join hil];exact hD)⟩ ?_
 clear O;intro i a w F hC O
 try dsimp only at hC
 obtain ⟨F,O⟩:=O.nM [67,66,65,7,4,3,0] [102,101,1,0]
 try dsimp only at O
 obtain ⟨hi,hq⟩:=hC
 have hD:=hq
 refine Ya (rZ O (qL r2) V [68,67,66,65,7,4,3,0] [102,101,1,0] fun O=>Ya ?_)
 refine Zd O Z (fun hc4=>?_) (fun hc4=>?_)
 ·have hil:i<d.now.length:=by simp at hc4;omega
  obtain ⟨⟨s2,c2⟩,O⟩:=O.open_ex 1 rfl
  obtain ⟨⟨hk2,hr2⟩,O⟩:=O.open_and 1 rfl
  obtain ⟨F,O⟩:=O.peel 1 2 Z rfl
  obtain ⟨F,O⟩:=O.peel 1 3 Z rfl
  obtain ⟨F,O⟩:=O.peel 1 4 Z rfl
  obtain ⟨F,O⟩:=O.peel 1 5 Z rfl
  obtain ⟨F,O⟩:=O.peel 1 6 Z rfl
  obtain ⟨F,O⟩:=O.peel 1 7 Z rfl
  try dsimp only at O
  dsimp only at hk2 hr2
  obtain ⟨F,O⟩:=O.nM [68,67,66,65,7,4,3,0] [102,101,7,6,5,4,3,2,0]
  refine Yf (Za (Ya (Ye (Ya (Zb O (qy 3 Ybw r2 (qf (oR true 3 .t) r1 qz (qf (oH [.int .i64 0,.bool false,.slice none 0 0] 105) trivial qz (qS 3 105 r2 r1 qZ)))) V [67,66,65,11,7,4,3,0] [105,102,101,7,6,5,4,3,2,0] (fun _=>rfl) (fun _=>rfl) fun τ a w F O=>?_)))))
  try dsimp only [RS.sub,SF.sub,CF.sub,csub,Anc.sub,List.map,Ze,xL,xM,Nat.reduceAdd,xD,xE,xT,xU,xC,xN,zCF,ldSF,rRt,rSq,Zx,rTx,ZB,Zs,ZG,rOp,Zah] at O
  generalize τ 11=v11 at O
  try simp only [Yg] at O
  refine Za (Ya (Zau O (qR rr (qR rr (qf (o_nilCheck 2 .is (by rfl)) r1 r1 (qf (oF 8 2 .adr) r1 r1 (qa 2 r1 r1 (qe 3 105 r1 r1 (qf (oP (scopied_c (Nn d.now i) (by have:=hdf.ops _ (Z8 hil);omega)) func54 (Args.one (.pagg .t))) r1 qz (qf (Zy (sz:=3) (zs:=[.int .i64 0,.bool false,.slice none 0 0]) (r:=[(0,.tmp 77)]) (l:=[_,_,_]) Ybw kr kr kr kr Z Z (.agg Z (.conv .t .agg) kr kr .nil) Z) r1 qz (qf (Z1 (sz:=3) (bs:=40) 5 (.mk' Ybw kr kr) (by intro x;rfl) .is (.arr (l':=[(Nn d.now i)]) .t) (by simp only [Yp,Yx];have h9:=stT_len (A:=A) (d:=d) (i:=i) ow;have h8:=hdf.all;omega) (by decide)) ⟨rfl,rfl,tv⟩ ⟨rfl,tv⟩ (qf (o_nilCheck 2 .is (by rfl)) r1 r1 (qf (oF 8 2 .adr) r1 r1 (qf (ZaU 2 .adr kr kr) r2 r1 qZ)))))))))))) V [67,66,65,11,7,4,3,0] [105,102,101,7,6,5,4,3,2,0] (fun _=>rfl) (fun _=>rfl) fun τ a w F O=>?_))
  try dsimp only [RS.sub,SF.sub,CF.sub,csub,Anc.sub,List.map,Ze,xL,xM,Nat.reduceAdd,xD,xE,xT,xU,xC,xN,zCF,ldSF,rRt,rSq,Zx,rTx,ZB,Zs,ZG,rOp,Zah] at O
  generalize τ 79=v79 at O
  rw [show (stT A d i).all ++ [(Nn d.now i)] = (stT A d (i+1)).all by rw [ZgV hil];rfl] at O
  have hDg:=hD.growT hil
  have hrep2:Zac (stT A d (i+1)) [(rT2 A d ((sizeH (ZN (hiA A) d).1:Nat):Int) i)] (⟨s2.b,s2.q,s2.c,s2.cs,s2.ck,s2.mv,v79,s2.sqv,s2.sr⟩:StC):=by rw [ZgV hil];exact hk2.addTx [(Nn d.now i)] v79
  refine Za ?_
  replace O:=O.fresh 1 rfl
  obtain ⟨F,O⟩:=O.nM [67,66,65,11,7,4,3,0] [105,102,101,7,6,5,4,3,2,1,0]
  refine Zq O (qR rr (qg 0 7 r1 r1 (qg 0 105 r1 r1 (qa 105 r1 r1 (qR rr (qf (o_nilCheck 2 .is (by rfl)) r1 r1 (qf (oF 8 2 .adr) r1 r1 (qa 2 r1 r1 (qf (Zae 5 Ybw .is) r1 r1 (qf (o_sub .t qi) r1 qz (qf (OpC.push (m:=7) (OpC.push (m:=6) (OpC.push (m:=5) (OpC.push (m:=4) (OpC.push (m:=3) (OpC.push (m:=2) (o_callG1 1 (FnG.pre1 (Zns b wb (stT A d (i+1)) hDg.ok (ZoE hdf) (rT2 A d ((sizeH (ZN (hiA A) d).1:Nat):Int) i) hDg.rok (Yac hDg.size ow) (Nn d.now i).id ((A.all.length:Int)+i)) (fun _ _ _ h=>⟨((⟨s2.b,s2.q,s2.c,s2.cs,s2.ck,s2.mv,v79,s2.sqv,s2.sr⟩:StC),c2),⟨hrep2,hr2⟩,h⟩) (k2:=.star (Zbb (.pointer (some ⟨b,0,none⟩)) (.pointer (some ⟨wb,0,none⟩)) (stT A d (i+1)) (⟨s2.b,s2.q,s2.c,s2.cs,s2.ck,s2.mv,v79,s2.sqv,s2.sr⟩:StC) c2))) func63 Z kr (Args.five .t .t (.conv .t ((Ent.adrK (by rfl)))) .t (.conv .t (Ent.int (by rw [stT_len ow];have h8:=hdf.all;rw [Zc ow];omega))))) (by rfl) (by decide) (by simp) (by simp) (by simp)) (by rfl) (by decide) (by simp) (by simp) (by simp)) (by rfl) (by decide) (by simp) (by simp) (by simp)) (by rfl) (by decide) (by simp) (by simp) (by simp)) (by rfl) (by decide) (by simp) (by simp) (by simp)) (by rfl) (by decide) (by simp) (by simp) (by simp)) r5 r7 qZ))))))))))) V [67,66,65,7,4,3,0] [105,102,101,7,6,5,4,3,2,1,0] Z Z fun a w F O=>?_
  try dsimp only [List.map,xD,xE,xT,xU,ldSF,rRt,rSq,Zx,rTx,ZB,Zs,ZG,rOp,Zah] at O
  rw [← Zkk hil] at O
  obtain ⟨F,O⟩:=O.nM [67,66,65,7,4,3,0] [105,102,101,1,0]
  refine Zm (Za (rZ O (qp r1 (qR rr qZ)) V [67,66,65,7,4,3,0] [105,102,101,1,0] fun O=>?_))
  replace O:=O.ent (i:=67) (s':=.pv (.int .i64 ((i+1:Nat):Int))) Z (.int (Zl ow))
  obtain ⟨F,O⟩:=O.nM [66,65,7,4,3,0,67] [102,101,0,1]
  exact ⟨(i+1),F,⟨by omega,(hD.nextT hil)⟩,O,by omega⟩
 have hil:i=d.now.length:=by simp at hc4;omega
 refine Yr (Zj (Zj (Zv (Za (Ya (Ya (rZ O (qg 2 101 r1 r1 (qa 101 r1 r1 (qu Ybx r1 (qJ qZ)))) V [97,96,95,7,4,3,0] [102,101,1,0] fun O=>Ye ?_)))))))
 replace O:=O.turn 1 Z (r':=RS.hp (Za1 (.pointer (some ⟨b,0,none⟩)) (.pointer (some ⟨wb,0,none⟩)) (stO A d 0) (rO1 A d ((sizeH (ZN (hiA A) d).1:Nat):Int) 0))) (fun _ _ _ _ h=>by rw [← stTO_join hil,← rTO_join hil];exact h)
 refine Zo (σ:=(Nat)) [0,3,4,7,95,96] [0,101,102] (fun s=>[(97,.pv (.int .i64 (s:Int)))]) (fun s=>[(1,RS.hp (Za1 (.pointer (some ⟨b,0,none⟩)) (.pointer (some ⟨wb,0,none⟩)) (stO A d 0) (rO1 A d ((sizeH (ZN (hiA A) d).1:Nat):Int) s)))]) (fun s=>s≤d.old.length∧(DoOk (stO A d 0) (rO1 A d ((sizeH (ZN (hiA A) d).1:Nat):Int) s) (sizeH (hiA A)+d.now.length))) (fun s=>d.old.length - s) (0) O ⟨rfl,rfl,rfl,rfl,rfl,rfl,rfl,tv⟩ ⟨rfl,rfl,rfl,rfl,tv⟩ ⟨Yz _,(by rw [← stTO_join hil,← rTO_join hil,← hil];exact hD)⟩ ?_
 clear O;intro i a w F hC O
 try dsimp only at hC
 obtain ⟨F,O⟩:=O.nM [97,96,95,7,4,3,0] [102,101,1,0]
 try dsimp only at O
 obtain ⟨hi,hq⟩:=hC
 have hD:=hq
 refine Ya (rZ O (qL r2) V [98,97,96,95,7,4,3,0] [102,101,1,0] fun O=>Ya ?_)
 refine Zd O Z (fun hc5=>?_) (fun hc5=>?_)
 ·have hil:i<d.old.length:=by simp at hc5;omega
  refine Yf (Za (Ya (Ye (Ya (Zb O (qy 2 Ybx r2 (qf (oR true 2 .t) r1 qz (qf (oH [.int .i64 0,.slice none 0 0] 106) trivial qz (qS 2 106 r2 r1 qZ)))) V [97,96,95,13,7,4,3,0] [106,102,101,1,0] (fun _=>rfl) (fun _=>rfl) fun τ a w F O=>?_)))))
  try dsimp only [RS.sub,SF.sub,CF.sub,csub,Anc.sub,List.map,Ze,xL,xM,Nat.reduceAdd,xD,xE,xT,xU,xC,xN,zCF,ldSF,rRt,rSq,Zx,rTx,ZB,Zs,ZG,rOp,Zah] at O
  generalize τ 13=v13 at O
  try simp only [Yg] at O
  refine Za (Zf O (qR rr (qf (ZdN (off:=2) .t kr) r1 qz (qg 0 106 r1 r1 (qa 106 r1 r1 (qf (o_callG1 1 (Zlq b wb (stO A d 0) hD.ok (ZiB hdf) (rO1 A d ((sizeH (ZN (hiA A) d).1:Nat):Int) i) hD.rok (Yac hD.size ow) (Nn d.old i).key (Zo4 hok h0 hil)) func62 Z kr (Args.four .t .t (.conv .t ((Ent.adrK (by rfl)))) .t)) r4 r1 qZ))))) V [97,96,95,7,4,3,0] [106,102,101,1,0] Z Z fun a w F O=>?_)
  rw [← rO1_next hil] at O
  refine Zm (Za (rZ O (qp r1 (qR rr qZ)) V [97,96,95,7,4,3,0] [106,102,101,1,0] fun O=>?_))
  replace O:=O.ent (i:=97) (s':=.pv (.int .i64 ((i+1:Nat):Int))) Z (.int (Zl ow))
  obtain ⟨F,O⟩:=O.nM [96,95,7,4,3,0,97] [102,101,0,1]
  exact ⟨(i+1),F,⟨by omega,(by rw [rO1_next hil];exact hD.delO _)⟩,O,by omega⟩
 have hil:i=d.old.length:=by simp at hc5;omega
 refine Yr (Zj (Zj (Zv (Za (Ya (Ya (rZ O (qg 3 101 r1 r1 (qa 101 r1 r1 (qu Ybx r1 (qJ qZ)))) V [110,109,108,7,4,0] [102,101,1,0] fun O=>Ye ?_)))))))
 replace O:=O.turn 1 Z (r':=RS.hp (Za1 (.pointer (some ⟨b,0,none⟩)) (.pointer (some ⟨wb,0,none⟩)) (stO A d 0) (rO2 A d ((sizeH (ZN (hiA A) d).1:Nat):Int) 0))) (fun _ _ _ _ h=>by rw [← rO_join hil];exact h)
 refine Zo (σ:=(Nat)) [0,4,7,108,109] [0,101,102] (fun s=>[(110,.pv (.int .i64 (s:Int)))]) (fun s=>[(1,RS.hp (Za1 (.pointer (some ⟨b,0,none⟩)) (.pointer (some ⟨wb,0,none⟩)) (stO A d s) (rO2 A d ((sizeH (ZN (hiA A) d).1:Nat):Int) s)))]) (fun s=>s≤d.new.length∧(DoOk (stO A d s) (rO2 A d ((sizeH (ZN (hiA A) d).1:Nat):Int) s) (sizeH (hiA A)+d.now.length+s+Zbd (d.new.take s)))) (fun s=>d.new.length - s) (0) O ⟨rfl,rfl,rfl,rfl,rfl,rfl,tv⟩ ⟨rfl,rfl,rfl,rfl,tv⟩ ⟨Yz _,(by rw [← rO_join hil];exact hD)⟩ ?_
 clear O;intro i a w F hC O
 try dsimp only at hC
 obtain ⟨F,O⟩:=O.nM [110,109,108,7,4,0] [102,101,1,0]
 try dsimp only at O
 obtain ⟨hi,hq⟩:=hC
 have hD:=hq
 refine Ya (rZ O (qL r2) V [111,110,109,108,7,4,0] [102,101,1,0] fun O=>Ya ?_)
 refine Zd O Z (fun hc6=>?_) (fun hc6=>?_)
 ·have hil:i<d.new.length:=by simp at hc6;omega
  obtain ⟨⟨s2,c2⟩,O⟩:=O.open_ex 1 rfl
  obtain ⟨⟨hk2,hr2⟩,O⟩:=O.open_and 1 rfl
  obtain ⟨F,O⟩:=O.peel 1 2 Z rfl
  obtain ⟨F,O⟩:=O.peel 1 3 Z rfl
  obtain ⟨F,O⟩:=O.peel 1 4 Z rfl
  obtain ⟨F,O⟩:=O.peel 1 5 Z rfl
  obtain ⟨F,O⟩:=O.peel 1 6 Z rfl
  obtain ⟨F,O⟩:=O.peel 1 7 Z rfl
  try dsimp only at O
  dsimp only at hk2 hr2
  obtain ⟨F,O⟩:=O.nM [111,110,109,108,7,4,0] [102,101,7,6,5,4,3,2,0]
  have hot:=ZkD d.new i
  refine Yf (Za (Ya (Ye (Ya (Zb O (qy 2 Ybx r2 (qf (oR true 2 .t) r1 qz (qf (oH [.int .i64 0,.slice none 0 0] 107) trivial qz (qS 2 107 r2 r1 qZ)))) V [110,109,108,15,7,4,0] [107,102,101,7,6,5,4,3,2,0] (fun _=>rfl) (fun _=>rfl) fun τ a w F O=>?_)))))
  try dsimp only [RS.sub,SF.sub,CF.sub,csub,Anc.sub,List.map,Ze,xL,xM,Nat.reduceAdd,xD,xE,xT,xU,xC,xN,zCF,ldSF,rRt,rSq,Zx,rTx,ZB,Zs,ZG,rOp,Zah] at O
  generalize τ 15=v15 at O
  try simp only [Yg] at O
  refine Za (Ya ?_)
  replace O:=O.fresh 9 rfl
  obtain ⟨F,O⟩:=O.push 9 7 Z Z Z kr
  obtain ⟨F,O⟩:=O.push 9 6 Z Z Z kr
  obtain ⟨F,O⟩:=O.push 9 5 Z Z Z kr
  obtain ⟨F,O⟩:=O.push 9 4 Z Z Z kr
  obtain ⟨F,O⟩:=O.push 9 3 Z Z Z kr
  obtain ⟨F,O⟩:=O.push 9 2 Z Z Z kr
  replace O:=O.turn 9 Z (r':=RS.hp (.star (Zbb (.pointer (some ⟨b,0,none⟩)) (.pointer (some ⟨wb,0,none⟩)) (stO A d i) s2 c2))) (fun _ _ _ _ h=>h)
  obtain ⟨F,O⟩:=O.nM [110,109,108,15,7,4,0] [107,102,101,9,0]
  refine Zf O (qR rr (qg 1 107 r1 r1 (qa 107 r1 r1 (qu Yby r1 (qf (o_callG1 9 (Zeb b wb (stO A d i) hD.ok (ZiB hdf) (rO2 A d ((sizeH (ZN (hiA A) d).1:Nat):Int) i) hD.rok (Yac hD.size ow) s2 c2 ((Nn d.new i).txs.length:Int) hk2 hr2 (by have:=hdf.len _ (Z8 hil);omega)) func64 Z kr (Args.three .t .t .t)) r3 r1 qZ))))) V [110,109,108,15,7,4,0] [107,102,101,9,0] Z Z fun a w F O=>?_
  obtain ⟨⟨s3,c3⟩,O⟩:=O.open_ex 9 rfl
  obtain ⟨hp3,O⟩:=O.open_and 9 rfl
  obtain ⟨F,O⟩:=O.peel 9 2 Z rfl
  obtain ⟨F,O⟩:=O.peel 9 3 Z rfl
  obtain ⟨F,O⟩:=O.peel 9 4 Z rfl
  obtain ⟨F,O⟩:=O.peel 9 5 Z rfl
  obtain ⟨F,O⟩:=O.peel 9 6 Z rfl
  obtain ⟨F,O⟩:=O.peel 9 7 Z rfl
  try dsimp only at O
  obtain ⟨F,O⟩:=O.nM [110,109,108,15,7,4,0] [107,102,101,7,6,5,4,3,2,0]
  have hlq:=hdf.len _ (Z8 hil)
  have hrm:s3.q.length+(Nn d.new i).txs.length≤65536:=by rcases hp3.room with ⟨e9,h9⟩ | h9; (· simp only [Prod.mk.injEq] at e9;rw [e9.1];omega);dsimp only at h9;omega
  obtain ⟨e1,ro1,hM1,hR1⟩:=ZqL s3.b (q:=s3.q) (Nn d.new i).txs hrm
  refine Za (Ya (Zau O (qR rr (qf (o_nilCheck 2 .is (by rfl)) r1 r1 (qf (oF 0 2 .adr) r1 r1 (qa 2 r1 r1 (qg 1 107 r1 r1 (qa 107 r1 r1 (qf (o_callG1 3 (hM1) func65 Z kr (Args.two .t .t)) r2 r1 (qR rr (qf (o_extract .t Z) r1 qz (qf (o_extract .t Z) r1 qz (qf (oH [.pointer none,.int .i64 0] 108) trivial qz (qf (oA 2 108 .same (.conv .t .agg)) r2 r1 (qO rr qZ))))))))))))) V [110,109,108,16,15,7,4,0] [108,107,102,101,7,6,5,4,3,2,0] (fun _=>rfl) (fun _=>rfl) fun τ a w F O=>?_))
  try dsimp only [RS.sub,SF.sub,CF.sub,csub,Anc.sub,List.map,Ze,xL,xM,Nat.reduceAdd,xD,xE,xT,xU,xC,xN,zCF,ldSF,rRt,rSq,Zx,rTx,ZB,Zs,ZG,rOp,Zah] at O
  generalize τ 16=v16 at O
  refine Za (Ya (Zau O (qR rr (qR rr (qf (o_nilCheck 2 .is (by rfl)) r1 r1 (qf (oF 9 2 .adr) r1 r1 (qa 2 r1 r1 (qe 2 108 r1 r1 (qf (Zy (sz:=2) (zs:=[.pointer none,.int .i64 0]) (r:=[(0,.tmp 134)]) (l:=[_,_]) YbD kr kr kr kr Z Z (.agg Z .t kr kr .nil) Z) r1 qz (qf (Z1 (sz:=2) (bs:=16) 6 (.mk' YbD kr kr) (by intro x;rfl) .is (.arr (l':=[(⟨arV (some s3.b),ro1⟩:SqC)]) .t) (by simp only [Yp,Yx];have h9:=hp3.rep.len;have h8:=hdf.seqs;have h7:=ZgU (A:=A) (d:=d) (i:=i) ow;dsimp only at h9;omega) (by decide)) ⟨rfl,rfl,tv⟩ ⟨rfl,tv⟩ (qf (o_nilCheck 2 .is (by rfl)) r1 r1 (qf (oF 9 2 .adr) r1 r1 (qf (ZaU 2 .adr kr kr) r2 r1 qZ))))))))))) V [110,109,108,15,7,4,0] [108,107,102,101,7,6,5,4,3,2,0] (fun _=>rfl) (fun _=>rfl) fun τ a w F O=>?_))
  try dsimp only [RS.sub,SF.sub,CF.sub,csub,Anc.sub,List.map,Ze,xL,xM,Nat.reduceAdd,xD,xE,xT,xU,xC,xN,zCF,ldSF,rRt,rSq,Zx,rTx,ZB,Zs,ZG,rOp,Zah] at O
  generalize τ 136=v136 at O
  have hDg:=hD.growO hil
  have hr4:=hp3.rt.app (e:=e1)
  have hrep4:Zac (stO A d (i+1)) [(rO2 A d ((sizeH (ZN (hiA A) d).1:Nat):Int) i)] (⟨s3.b,s3.q++e1,s3.c,s3.cs,s3.ck,s3.mv,s3.alv,v136,s3.sr ++ [(⟨arV (some s3.b),ro1⟩:SqC)]⟩:StC):=by rw [Zi1 hil];exact hp3.rep.addSeq (Nn d.new i).txs e1 ⟨arV (some s3.b),ro1⟩ ⟨rfl,hR1⟩ hD.ok hD.rok.ov v136
  refine Za ?_
  replace O:=O.fresh 1 rfl
  obtain ⟨F,O⟩:=O.nM [110,109,108,15,7,4,0] [108,107,102,101,7,6,5,4,3,2,1,0]
  refine Zq O (qR rr (qg 2 7 r1 r1 (qg 0 107 r1 r1 (qa 107 r1 r1 (qR rr (qf (o_nilCheck 2 .is (by rfl)) r1 r1 (qf (oF 9 2 .adr) r1 r1 (qa 2 r1 r1 (qf (Zae 6 YbD .is) r1 r1 (qf (o_sub .t qi) r1 qz (qf (OpC.push (m:=7) (OpC.push (m:=6) (OpC.push (m:=5) (OpC.push (m:=4) (OpC.push (m:=3) (OpC.push (m:=2) (o_callG1 1 (FnG.pre1 (Zn6 b wb (stO A d (i+1)) hDg.ok (ZiB hdf) (rO2 A d ((sizeH (ZN (hiA A) d).1:Nat):Int) i) hDg.rok (Yac hDg.size ow) (Nn d.new i).key ((A.seqs.length:Int)+i) (by rw [ZgU ow];omega)) (fun _ _ _ h=>⟨((⟨s3.b,s3.q++e1,s3.c,s3.cs,s3.ck,s3.mv,s3.alv,v136,s3.sr ++ [(⟨arV (some s3.b),ro1⟩:SqC)]⟩:StC),c3),⟨hrep4,hr4⟩,h⟩) (k2:=.star (Zbb (.pointer (some ⟨b,0,none⟩)) (.pointer (some ⟨wb,0,none⟩)) (stO A d (i+1)) (⟨s3.b,s3.q++e1,s3.c,s3.cs,s3.ck,s3.mv,s3.alv,v136,s3.sr ++ [(⟨arV (some s3.b),ro1⟩:SqC)]⟩:StC) c3))) func63 Z kr (Args.five .t .t (.conv .t ((Ent.adrK (by rfl)))) .t (.conv .t (Ent.int (by have h9:=hp3.rep.len;have h8:=hdf.seqs;have h7:=ZgU (A:=A) (d:=d) (i:=i) ow;dsimp only at h9;rw [Yb,Yah,Zc ow];omega))))) (by rfl) (by decide) (by simp) (by simp) (by simp)) (by rfl) (by decide) (by simp) (by simp) (by simp)) (by rfl) (by decide) (by simp) (by simp) (by simp)) (by rfl) (by decide) (by simp) (by simp) (by simp)) (by rfl) (by decide) (by simp) (by simp) (by simp)) (by rfl) (by decide) (by simp) (by simp) (by simp)) r5 r7 qZ))))))))))) V [110,109,108,7,4,0] [108,107,102,101,7,6,5,4,3,2,1,0] Z Z fun a w F O=>?_
  try dsimp only [List.map,xD,xE,xT,xU,ldSF,rRt,rSq,Zx,rTx,ZB,Zs,ZG,rOp,Zah] at O
  rw [← Zj9 hil] at O
  obtain ⟨F,O⟩:=O.nM [110,109,108,7,4,0] [108,107,102,101,1,0]
  refine Zm (Za (rZ O (qp r1 (qR rr qZ)) V [110,109,108,7,4,0] [108,107,102,101,1,0] fun O=>?_))
  replace O:=O.ent (i:=110) (s':=.pv (.int .i64 ((i+1:Nat):Int))) Z (.int (Zl ow))
  obtain ⟨F,O⟩:=O.nM [109,108,7,4,0,110] [102,101,0,1]
  exact ⟨(i+1),F,⟨by omega,(by rw [sizeO_next hil];have h9:=hD.nextO hil;exact (show sizeH (hiA A)+d.now.length+i+Zbd (d.new.take i)+1+(Nn d.new i).txs.length=sizeH (hiA A)+d.now.length+(i+1)+(Zbd (d.new.take i)+(Nn d.new i).txs.length) by omega) ▸ h9)⟩,O,by omega⟩
 have hil:i=d.new.length:=by simp at hc6;omega
 obtain ⟨⟨s5,c5⟩,O⟩:=O.open_ex 1 rfl
 obtain ⟨⟨hk5,hr5⟩,O⟩:=O.open_and 1 rfl
 obtain ⟨F,O⟩:=O.peel 1 2 Z rfl
 obtain ⟨F,O⟩:=O.peel 1 3 Z rfl
 obtain ⟨F,O⟩:=O.peel 1 4 Z rfl
 obtain ⟨F,O⟩:=O.peel 1 5 Z rfl
 obtain ⟨F,O⟩:=O.peel 1 6 Z rfl
 obtain ⟨F,O⟩:=O.peel 1 7 Z rfl
 try dsimp only at O
 dsimp only at hk5 hr5
 obtain ⟨F,O⟩:=O.nM [111,110,109,108,7,4,0] [102,101,7,6,5,4,3,2,0]
 refine Yr (Zj (Zj (Zv (Za (Ya (rZ O (qR rr (qe 5 7 r1 r1 (qf (o_nilCheck 2 .is (by rfl)) r1 r1 (qf (oF 1 2 .adr) r1 r1 (qf (oA 5 2 .adr .t) r2 r1 qZ))))) V [4] [102,101,7,6,5,4,3,2,0] fun O=>Ya ?_))))))
 refine rZ O (qI qZ) V [4] [102,101,7,6,5,4,3,2,0] fun O=>Yi ?_
 have O:=O.fresh 1 rfl
 obtain ⟨F,O⟩:=O.push 1 6 Z Z Z kr
 obtain ⟨F,O⟩:=O.push 1 5 Z Z Z kr
 obtain ⟨F,O⟩:=O.push 1 4 Z Z Z kr
 obtain ⟨F,O⟩:=O.push 1 3 Z Z Z kr
 obtain ⟨F,O⟩:=O.push 1 2 Z Z Z kr
 have O:=O.turn 1 Z (r':=RS.hp (ZR (.pointer (some ⟨b,0,none⟩)) (doA A d).1)) (fun _ _ _ _ h=>⟨(⟨s5.b,s5.q,c5,s5.cs,s5.ck,s5.mv,s5.alv,s5.sqv,s5.sr⟩:StC),(by rw [hg];have h9:=hk5.turn hr5;rw [ZmW hil,Zkt hil] at h9;exact h9),(by rw [hg];exact h)⟩)
 obtain ⟨F,O⟩:=O.nM [4] [1,0]
 refine ZA hG O Z (.tmp Z .nil) (.one (.int (by rw [hg]))) rfl
theorem ZlJ  : FnG prog 7 1 [] [.star []] (PV.ptr) (fun v=>[ZR v Zc8]):=by
 refine FnG.mk func7 Z ntmps7 Z kr fun B F0 a w F V hG O=>Ya ?_
 refine rZ O (qC qZ) V [0] [1,0] fun O=>Ya ?_
 replace O:=O.fresh 101 rfl
 refine Zb O (qf (Zck 101 (Zlw 65536) func45 Z kr (Args.one qi) PV.ptr_one) qz r1 (qO rr qZ)) V [1,0] [101,1,0] (fun _=>rfl) (fun _=>rfl) fun τ a w F O=>?_
 try dsimp only [RS.sub,SF.sub,CF.sub,csub,Anc.sub,List.map,Zs,rTx,ZB,Zaq,ZG,rOp] at O
 generalize τ 2=v2 at O
 obtain ⟨_,_,_,ho⟩:=O.obGet 101 rfl
 obtain ⟨b9,rfl⟩:=Zga ho
 clear ho
 replace O:=O.turn 101 Z (r':=RS.hp (ZaF (.pointer (some ⟨b9,0,none⟩)) (Zbu 65536) [])) (fun _ _ _ _ h=>h)
 obtain ⟨F,O⟩:=O.nM [1,0] [101,1,0]
 rw [show Zbu 65536=65536 by decide] at O
 refine Za (Ya (Zb O (qR rr (qR rr (qf (oP (Znq (some b9)) func46 (Args.one .t)) r1 qz (qf (Zb7 (ek:=(fun c:RtC=>PV.agg (rRt c))) (ok:=(fun n:Int=>inR .i64 n)) (kv:=(fun n:Int=>Value.int .i64 n)) 102) trivial qz (qf (oB [(0,.tmp 3),(1,.tmp 5),(2,.tmp 6)] [.pointer none,.pointer none,.int .i64 0,.pointer none,.int .i64 0,.int .i64 0,.map none,.int .i64 0,.slice none 0 0,.slice none 0 0] [(0,1),(1,5),(6,1),(7,1),(8,1),(9,1)] (.one Z .t Zgn kr (.agg Z (.conv .t .agg) kr kr (.same Z kr .nil)))) r3 qz (qf (oX 103 .t) r1 qz (qO rr qZ))))))) V [0] [103,102,101,1,0] (fun _=>rfl) (fun _=>rfl) fun τ a w F O=>?_))
 try dsimp only [RS.sub,SF.sub,CF.sub,csub,Anc.sub,List.map,Ze,xL,xM,Nat.reduceAdd,xD,xE,xT,xU,xC,xN,zCF,Zs,rTx,ZB,Zaq,ZG,rOp] at O
 generalize τ 8=v8,τ 6=v6 at O
 refine Za (Yi ?_)
 obtain ⟨b,rfl⟩:=O.shape 103 rfl
 replace O:=O.fresh 80 rfl
 replace O:=O.turn 80 Z (ZaI (T:=36) (sz:=3) (R:=rTx))
 replace O:=O.fresh 81 rfl
 replace O:=O.turn 81 Z (ZaI (T:=114) (sz:=2) (R:=rSq))
 obtain ⟨F,O⟩:=O.push 1 81 Z Z Z kr
 obtain ⟨F,O⟩:=O.push 1 80 Z Z Z kr
 obtain ⟨F,O⟩:=O.push 1 102 Z Z Z kr
 obtain ⟨F,O⟩:=O.push 1 101 Z Z Z kr
 obtain ⟨F,O⟩:=O.push 1 103 Z Z Z kr
 replace O:=O.turn 1 Z (r':=RS.hp (ZR (.pointer (some ⟨b,0,none⟩)) Zc8)) (fun _ _ _ _ h=>⟨_,Zac.zero b9 v6 (.slice none 0 0) (.slice none 0 0),h⟩)
 refine Zdd (h':=fun v=>ZR v Zc8) hG O Z (.tmp Z .nil) (.one .ptr) rfl
instance (l:List TxD):Decidable (Zca l):=by unfold Zca;exact inferInstance
instance (l:List Zr):Decidable (Zgc l):=by unfold Zgc;exact inferInstance
instance (g:ZS):Decidable (Zel g):=by unfold Zel;exact inferInstance
instance (d:ZK):Decidable (Zgw d):=by unfold Zgw;exact inferInstance
theorem Zjl:Zat (⟨[(⟨1,true,[⟨false,5,0,0⟩]⟩:TxD)],[⟨5,[1]⟩]⟩:ZS):=by decide +kernel
theorem ZeP:Zat (⟨[],[]⟩:ZS):=by decide +kernel
theorem lx1:ofD (⟨[],[]⟩:ZS) (⟨[(⟨1,true,[⟨false,5,0,0⟩]⟩:TxD)],[⟨5,[1]⟩]⟩:ZS)=((⟨[],[(⟨1,true,[⟨false,5,0,0⟩]⟩:TxD)],[],[⟨5,[1]⟩]⟩:ZK),0):=by decide +kernel
theorem lx1i:ofD (⟨[(⟨1,true,[⟨false,5,0,0⟩]⟩:TxD)],[⟨5,[1]⟩]⟩:ZS) (⟨[],[]⟩:ZS)=((⟨[(⟨1,true,[⟨false,5,0,0⟩]⟩:TxD)],[],[⟨5,[1]⟩],[]⟩:ZK),0):=by decide +kernel
theorem lx2:ZN (⟨[],[]⟩:ZS) (⟨[],[(⟨1,true,[⟨false,5,0,0⟩]⟩:TxD)],[],[⟨5,[1]⟩]⟩:ZK)=((⟨[(⟨1,true,[⟨false,5,0,0⟩]⟩:TxD)],[⟨5,[1]⟩]⟩:ZS),0):=by have h:=Zg1 ZeP Zjl;rwa [lx1] at h
theorem lx3:ZN (⟨[(⟨1,true,[⟨false,5,0,0⟩]⟩:TxD)],[⟨5,[1]⟩]⟩:ZS) (⟨[],[(⟨1,true,[⟨false,5,0,0⟩]⟩:TxD)],[],[⟨5,[1]⟩]⟩:ZK)=((⟨[],[]⟩:ZS),17):=by decide +kernel
theorem lx4:ZN (⟨[(⟨1,true,[⟨false,5,0,0⟩]⟩:TxD)],[⟨5,[1]⟩]⟩:ZS) (inv (⟨[],[(⟨1,true,[⟨false,5,0,0⟩]⟩:TxD)],[],[⟨5,[1]⟩]⟩:ZK))=((⟨[],[]⟩:ZS),0):=by have h:=Zg1 Zjl ZeP;rwa [lx1i] at h
theorem lxs2:ZbI (⟨[],[]⟩:ZS) (⟨[],[(⟨1,true,[⟨false,5,0,0⟩]⟩:TxD)],[],[⟨5,[1]⟩]⟩:ZK):=.of (by decide) (by decide) (by decide) (by decide)
theorem lxs3:ZbI (⟨[(⟨1,true,[⟨false,5,0,0⟩]⟩:TxD)],[⟨5,[1]⟩]⟩:ZS) (⟨[],[(⟨1,true,[⟨false,5,0,0⟩]⟩:TxD)],[],[⟨5,[1]⟩]⟩:ZK):=.of (by decide) (by decide) (by decide) (by decide)
theorem lxs4:ZbI (⟨[(⟨1,true,[⟨false,5,0,0⟩]⟩:TxD)],[⟨5,[1]⟩]⟩:ZS) (inv (⟨[],[(⟨1,true,[⟨false,5,0,0⟩]⟩:TxD)],[],[⟨5,[1]⟩]⟩:ZK)):=.of (by decide) (by decide) (by decide) (by decide)
theorem Zjh:ZiH [(⟨1,true,[⟨false,5,0,0⟩]⟩:TxD)] [[1]] (⟨[⟨1,0⟩],[⟨5,0⟩],3⟩:RtA):=⟨Yax _ _,Yax _ _,fun p hp=>by rw [Yl] at hp;subst hp;decide,fun p hp=>by rw [Yl] at hp;subst hp;decide⟩
theorem Zql:ZiH [(⟨1,true,[⟨false,5,0,0⟩]⟩:TxD)] [[1]] (⟨[],[],0⟩:RtA):=⟨List.Pairwise.nil,List.Pairwise.nil,fun p hp=>(by cases hp),fun p hp=>(by cases hp)⟩
theorem ZpI:Zax (⟨(⟨[⟨1,0⟩],[⟨5,0⟩],3⟩:RtA),[],0,[(⟨1,true,[⟨false,5,0,0⟩]⟩:TxD)],[[1]]⟩:StA):=⟨Zjh,fun x hx=>(by cases hx),List.Pairwise.nil,rfl,fun x hx=>(by cases hx),by decide,by decide⟩
theorem ZpQ:Zax (⟨(⟨[⟨1,0⟩],[⟨5,0⟩],3⟩:RtA),[],1,[(⟨1,true,[⟨false,5,0,0⟩]⟩:TxD)],[[1]]⟩:StA):=⟨Zjh,fun x hx=>(by cases hx),List.Pairwise.nil,rfl,fun x hx=>(by cases hx),by decide,by decide⟩
theorem ZoJ:Zax (⟨(⟨[⟨1,0⟩],[⟨5,0⟩],3⟩:RtA),[(0,(⟨[⟨1,0⟩],[⟨5,0⟩],3⟩:RtA))],1,[(⟨1,true,[⟨false,5,0,0⟩]⟩:TxD)],[[1]]⟩:StA):=⟨Zjh,fun x hx=>(by rw [Yl] at hx;subst hx;exact ⟨Zjh,by decide,by decide⟩),Yax _ _,rfl,fun x hx=>(by rw [Yl] at hx;subst hx;rfl),by decide,by decide⟩
theorem Zo0:Zax (⟨(⟨[],[],0⟩:RtA),[(0,(⟨[⟨1,0⟩],[⟨5,0⟩],3⟩:RtA))],1,[(⟨1,true,[⟨false,5,0,0⟩]⟩:TxD)],[[1]]⟩:StA):=⟨Zql,fun x hx=>(by rw [Yl] at hx;subst hx;exact ⟨Zjh,by decide,by decide⟩),Yax _ _,rfl,fun x hx=>(by rw [Yl] at hx;subst hx;rfl),by decide,by decide⟩
theorem Zph:Zax (⟨(⟨[⟨1,0⟩],[⟨5,0⟩],3⟩:RtA),[(1,(⟨[⟨1,0⟩],[⟨5,0⟩],3⟩:RtA))],2,[(⟨1,true,[⟨false,5,0,0⟩]⟩:TxD)],[[1]]⟩:StA):=⟨Zjh,fun x hx=>(by rw [Yl] at hx;subst hx;exact ⟨Zjh,by decide,by decide⟩),Yax _ _,rfl,fun x hx=>(by rw [Yl] at hx;subst hx;rfl),by decide,by decide⟩
theorem sl1:doA Zc8 (⟨[],[(⟨1,true,[⟨false,5,0,0⟩]⟩:TxD)],[],[⟨5,[1]⟩]⟩:ZK)=((⟨(⟨[⟨1,0⟩],[⟨5,0⟩],3⟩:RtA),[],0,[(⟨1,true,[⟨false,5,0,0⟩]⟩:TxD)],[[1]]⟩:StA),0):=by
 unfold doA
 rw [show hiA Zc8=(⟨[],[]⟩:ZS) from rfl,lx2,Yc (by decide),Yc (by decide)];rfl
theorem sl2:doA (⟨(⟨[⟨1,0⟩],[⟨5,0⟩],3⟩:RtA),[],0,[(⟨1,true,[⟨false,5,0,0⟩]⟩:TxD)],[[1]]⟩:StA) (⟨[],[(⟨1,true,[⟨false,5,0,0⟩]⟩:TxD)],[],[⟨5,[1]⟩]⟩:ZK)=((⟨(⟨[⟨1,0⟩],[⟨5,0⟩],3⟩:RtA),[],0,[(⟨1,true,[⟨false,5,0,0⟩]⟩:TxD)],[[1]]⟩:StA),17):=by
 unfold doA
 rw [show hiA (⟨(⟨[⟨1,0⟩],[⟨5,0⟩],3⟩:RtA),[],0,[(⟨1,true,[⟨false,5,0,0⟩]⟩:TxD)],[[1]]⟩:StA)=(⟨[(⟨1,true,[⟨false,5,0,0⟩]⟩:TxD)],[⟨5,[1]⟩]⟩:ZS) from rfl,lx3,Yd (by decide)]
theorem sl3:Zbj (⟨(⟨[⟨1,0⟩],[⟨5,0⟩],3⟩:RtA),[],0,[(⟨1,true,[⟨false,5,0,0⟩]⟩:TxD)],[[1]]⟩:StA)=((⟨(⟨[⟨1,0⟩],[⟨5,0⟩],3⟩:RtA),[(0,(⟨[⟨1,0⟩],[⟨5,0⟩],3⟩:RtA))],1,[(⟨1,true,[⟨false,5,0,0⟩]⟩:TxD)],[[1]]⟩:StA),0,0):=by unfold Zbj;rw [Yc (by decide)];rfl
theorem sl4:doA (⟨(⟨[⟨1,0⟩],[⟨5,0⟩],3⟩:RtA),[(0,(⟨[⟨1,0⟩],[⟨5,0⟩],3⟩:RtA))],1,[(⟨1,true,[⟨false,5,0,0⟩]⟩:TxD)],[[1]]⟩:StA) (⟨[(⟨1,true,[⟨false,5,0,0⟩]⟩:TxD)],[],[⟨5,[1]⟩],[]⟩:ZK)=((⟨(⟨[],[],0⟩:RtA),[(0,(⟨[⟨1,0⟩],[⟨5,0⟩],3⟩:RtA))],1,[(⟨1,true,[⟨false,5,0,0⟩]⟩:TxD)],[[1]]⟩:StA),0):=by
 unfold doA
 rw [show hiA (⟨(⟨[⟨1,0⟩],[⟨5,0⟩],3⟩:RtA),[(0,(⟨[⟨1,0⟩],[⟨5,0⟩],3⟩:RtA))],1,[(⟨1,true,[⟨false,5,0,0⟩]⟩:TxD)],[[1]]⟩:StA)=(⟨[(⟨1,true,[⟨false,5,0,0⟩]⟩:TxD)],[⟨5,[1]⟩]⟩:ZS) from rfl,show ZN (⟨[(⟨1,true,[⟨false,5,0,0⟩]⟩:TxD)],[⟨5,[1]⟩]⟩:ZS) (⟨[(⟨1,true,[⟨false,5,0,0⟩]⟩:TxD)],[],[⟨5,[1]⟩],[]⟩:ZK)=((⟨[],[]⟩:ZS),0) from lx4,Yc (by decide),Yc (by decide)];rfl
theorem sl5:ZdA (⟨(⟨[],[],0⟩:RtA),[(0,(⟨[⟨1,0⟩],[⟨5,0⟩],3⟩:RtA))],1,[(⟨1,true,[⟨false,5,0,0⟩]⟩:TxD)],[[1]]⟩:StA) 1=((⟨(⟨[],[],0⟩:RtA),[(0,(⟨[⟨1,0⟩],[⟨5,0⟩],3⟩:RtA))],1,[(⟨1,true,[⟨false,5,0,0⟩]⟩:TxD)],[[1]]⟩:StA),3):=rfl
theorem sl6:ZdA (⟨(⟨[],[],0⟩:RtA),[(0,(⟨[⟨1,0⟩],[⟨5,0⟩],3⟩:RtA))],1,[(⟨1,true,[⟨false,5,0,0⟩]⟩:TxD)],[[1]]⟩:StA) 0=((⟨(⟨[⟨1,0⟩],[⟨5,0⟩],3⟩:RtA),[(0,(⟨[⟨1,0⟩],[⟨5,0⟩],3⟩:RtA))],1,[(⟨1,true,[⟨false,5,0,0⟩]⟩:TxD)],[[1]]⟩:StA),0):=rfl
theorem sl7:Zdn (⟨(⟨[⟨1,0⟩],[⟨5,0⟩],3⟩:RtA),[(0,(⟨[⟨1,0⟩],[⟨5,0⟩],3⟩:RtA))],1,[(⟨1,true,[⟨false,5,0,0⟩]⟩:TxD)],[[1]]⟩:StA) 0=((⟨(⟨[⟨1,0⟩],[⟨5,0⟩],3⟩:RtA),[],1,[(⟨1,true,[⟨false,5,0,0⟩]⟩:TxD)],[[1]]⟩:StA),0):=rfl
theorem sl8:Zdn (⟨(⟨[⟨1,0⟩],[⟨5,0⟩],3⟩:RtA),[],1,[(⟨1,true,[⟨false,5,0,0⟩]⟩:TxD)],[[1]]⟩:StA) 0=((⟨(⟨[⟨1,0⟩],[⟨5,0⟩],3⟩:RtA),[],1,[(⟨1,true,[⟨false,5,0,0⟩]⟩:TxD)],[[1]]⟩:StA),3):=rfl
theorem sl9:Zbj (⟨(⟨[⟨1,0⟩],[⟨5,0⟩],3⟩:RtA),[],1,[(⟨1,true,[⟨false,5,0,0⟩]⟩:TxD)],[[1]]⟩:StA)=((⟨(⟨[⟨1,0⟩],[⟨5,0⟩],3⟩:RtA),[(1,(⟨[⟨1,0⟩],[⟨5,0⟩],3⟩:RtA))],2,[(⟨1,true,[⟨false,5,0,0⟩]⟩:TxD)],[[1]]⟩:StA),1,0):=by unfold Zbj;rw [Yc (by decide)];rfl
theorem ZeT (b:Nat) {A A2:StA} {d:ZK} {w:Int} (h:doA A d=(A2,w)) (hok:Zax A) (hdf:Zi6 A d) (hsd:ZbI (hiA A) d):FnG prog 23 1 [.is (.pointer (some ⟨b,0,none⟩)),.agg (Zah d)] [ZR (.pointer (some ⟨b,0,none⟩)) A] (.int .i64 w) (fun _=>[ZR (.pointer (some ⟨b,0,none⟩)) A2]):=by have k:=Zp5 b A d hok hdf hsd;rw [h] at k;exact k
theorem ZcW (b:Nat) {A A2:StA} {n w:Int} (h:Zbj A=(A2,n,w)) (hok:Zax A) (hf:Zba A):FnG prog 21 1 [.is (.pointer (some ⟨b,0,none⟩))] [ZR (.pointer (some ⟨b,0,none⟩)) A] (.tup [.int .i64 n,.int .i64 w]) (fun _=>[ZR (.pointer (some ⟨b,0,none⟩)) A2]):=by have k:=Zj5 b A hok hf;rw [h] at k;exact k
theorem ZgB (b:Nat) {A A2:StA} {n w:Int} (h:ZdA A n=(A2,w)) (hok:Zax A) (hf:Zba A):FnG prog 25 1 [.is (.pointer (some ⟨b,0,none⟩)),.int .i64 n] [ZR (.pointer (some ⟨b,0,none⟩)) A] (.int .i64 w) (fun _=>[ZR (.pointer (some ⟨b,0,none⟩)) A2]):=by have k:=ZnH b A hok hf n;rw [h] at k;exact k
theorem Zeq (b:Nat) {A A2:StA} {n w:Int} (h:Zdn A n=(A2,w)) (hok:Zax A) (hf:Zba A):FnG prog 26 1 [.is (.pointer (some ⟨b,0,none⟩)),.int .i64 n] [ZR (.pointer (some ⟨b,0,none⟩)) A] (.int .i64 w) (fun _=>[ZR (.pointer (some ⟨b,0,none⟩)) A2]):=by have k:=ZnJ b A hok hf n;rw [h] at k;exact k
theorem Zk3 (b:Nat) {A:StA} {w:Int} (h:ZaH A=w) (hok:Zax A) (hf:Zba A):FnG prog 15 1 [.is (.pointer (some ⟨b,0,none⟩))] [ZR (.pointer (some ⟨b,0,none⟩)) A] (.int .i64 w) (fun _=>[ZR (.pointer (some ⟨b,0,none⟩)) A]):=by have k:=ZjM b A hok hf;rw [h] at k;exact k
theorem Zf7 (b:Nat) {A:StA} {g:ZS} (h:hiA A=g) (hok:Zax A) (hf:Zba A):FnG prog 14 1 [.is (.pointer (some ⟨b,0,none⟩))] [ZR (.pointer (some ⟨b,0,none⟩)) A] (.agg (Zs g)) (fun _=>[ZR (.pointer (some ⟨b,0,none⟩)) A]):=by have k:=Zj0 b A hok hf;rw [h] at k;exact k
theorem Zk6  : FnP prog 21 [.is (.pointer none)] (.tup [.int .i64 0,.int .i64 17]):=by
 refine FnP.mk func21 Z ntmps21 Z fun B a w F V hfr O=>Ya ?_
 refine rZ O (qI (qI qZ)) V [3,2,0] [0] fun O=>(Ya (Ye (Ya ?_)))
 refine rZ O (qR rr (qf (Z3 _ YbB Z .t) r1 qz (qO rr qZ))) V [5,3,2,0] [0] fun O=>?_
 refine Zd O Z (fun hc0=>?_) (fun hc0=>?_)
 ·refine Ya (rZ O (qI (qI qZ)) V [3,2,0] [0] fun O=>(Yi (ZC (Zk ?_))))
  refine Za4 hfr O Z (.tmp Z (.tmp Z .nil)) (.two .refl .refl)
 simp at hc0
theorem Zk4 (n:Int):FnP prog 25 [.is (.pointer none),.int .i64 n] (.int .i64 3):=by
 refine FnP.mk func25 Z ntmps25 Z fun B a w F V hfr O=>Ya ?_
 refine rZ O (qI qZ) V [4,1,0] [0] fun O=>(Ya (Ya ?_))
 refine rZ O (qR rr (qf (Z3 _ YbB Z .t) r1 qz qZ)) V [8,4,1,0] [0] fun O=>?_
 refine Zd O Z (fun hc0=>?_) (fun hc0=>?_)
 ·refine Ya (rZ O (qI qZ) V [4,1,0] [0] fun O=>(Yi (Zk ?_)))
  refine ZP hfr O Z Z Z .refl
 simp at hc0
theorem Zlc  : FnP prog 15 [.is (.pointer none)] (.int .i64 0):=by
 refine FnP.mk func15 Z ntmps15 Z fun B a w F V hfr O=>Ya ?_
 refine rZ O (qI qZ) V [2,0] [0] fun O=>(Ya (Ya ?_))
 refine rZ O (qR rr (qf (Z3 _ YbB Z .t) r1 qz qZ)) V [7,2,0] [0] fun O=>?_
 refine Zd O Z (fun hc0=>?_) (fun hc0=>?_)
 ·refine Ya (rZ O (qI qZ) V [2,0] [0] fun O=>(Yi (Zk ?_)))
  refine ZP hfr O Z Z Z .refl
 simp at hc0
theorem Zn9 (d:ZK):FnP prog 23 [.is (.pointer none),.agg (Zah d)] (.int .i64 17):=by
 refine FnP.mk func23 Z ntmps23 Z fun B a w F V hfr O=>Ya ?_
 refine Zb O (qx 101 r1 (qI qZ)) V [4,3,0] [101,0] (fun _=>rfl) (fun _=>rfl) fun τ a w F O=>?_
 try dsimp only [RS.sub,SF.sub,CF.sub,csub,Anc.sub,List.map,zCF,rRt,rSq,Zx,rTx,ZB,Zs,ZG,rOp] at O
 generalize τ 3=v3 at O
 refine Za (Ya (Ya (rZ O (qR rr (qf (Z3 _ YbB Z .t) r1 qz qZ)) V [19,4,3,0] [101,0] fun O=>?_)))
 refine Zd O Z (fun hc0=>?_) (fun hc0=>?_)
 ·refine Ya (rZ O (qI qZ) V [4,3,0] [101,0] fun O=>(Yi (Zk ?_)))
  refine ZP hfr O Z Z Z .refl
 simp at hc0
theorem ZkZ  : FnP prog 14 [.is (.pointer none)] (.agg (Zs (⟨[],[]⟩:ZS))):=by
 refine FnP.mk func14 Z ntmps14 Z fun B a w F V hfr O=>Ya ?_
 refine Zb O (qf (oH [.slice none 0 0,.slice none 0 0] 101) trivial qz qZ) V [2,0] [101,0] (fun _=>rfl) (fun _=>rfl) fun τ a w F O=>?_
 try dsimp only [RS.sub,SF.sub,CF.sub,csub,Anc.sub,List.map,zCF,rRt,rSq,Zx,rTx,ZB,Zs,ZG,rOp] at O
 generalize τ 2=v2 at O
 refine Za (Ya (Zb O (qf (oH [.slice none 0 0,.slice none 0 0] 102) trivial qz qZ) V [3,2,0] [102,101,0] (fun _=>rfl) (fun _=>rfl) fun τ a w F O=>?_))
 try dsimp only [RS.sub,SF.sub,CF.sub,csub,Anc.sub,List.map,zCF,rRt,rSq,Zx,rTx,ZB,Zs,ZG,rOp] at O
 generalize τ 3=v3 at O
 refine Za (Ya (Ya (rZ O (qR rr (qf (Z3 _ YbB Z .t) r1 qz qZ)) V [9,3,2,0] [102,101,0] fun O=>?_)))
 refine Zd O Z (fun hc0=>?_) (fun hc0=>?_)
 ·refine Ya (rZ O (qe 2 102 r1 r1 (qs 2 101 r2 r1 qZ)) V [3,2,0] [102,101,0] fun O=>(Yi (Zk ?_)))
  refine Za4 hfr O Z (.cl 101 true 2 Z Z .nil) (.one (.aggLe Z ⟨.nilSl,.nilSl,tv⟩))
 simp at hc0
theorem Znl (b:Nat) {A:StA} {id:Int} {t:TxD} {w:Bool} (h:txA A id=(t,w)) (hok:Zax A) (hf:Zba A):FnG prog 11 1 [.is (.pointer (some ⟨b,0,none⟩)),.int .i64 id] [ZR (.pointer (some ⟨b,0,none⟩)) A] (.tup [.agg (rTx t),.bool w]) (fun _=>[ZR (.pointer (some ⟨b,0,none⟩)) A]):=by have k:=ZpN b A hok hf id;rw [h] at k;exact k
theorem ZiW (b:Nat) {A:StA} {key:Int} {l:List Int} (h:Zf6 A key=l) (hok:Zax A) (hf:Zba A):FnG prog 19 1 [.is (.pointer (some ⟨b,0,none⟩)),.int .i64 key] [ZR (.pointer (some ⟨b,0,none⟩)) A] (.sl ZG l) (fun _=>[ZR (.pointer (some ⟨b,0,none⟩)) A]):=by have k:=Zmg b A hok hf key;rw [h] at k;exact k
theorem Ent.sure {c:Prop} {s:SF} (h:c):Ent s (.when c s):=fun _ _ _ _ k=>⟨fun _=>k,fun n=>absurd h n⟩
theorem ZmL  : FnP prog 9 [] (.bool true):=by
 refine FnP.mk func9 Z ntmps9 Z fun B a w F V hfr O=>Ya ?_
 refine rZ O qB V [0] [0] fun O=>Ya ?_
 replace O:=O.fresh 61 rfl
 obtain ⟨F,O⟩:=O.nM [0] [61,0]
 refine Zb O (qf (Zck 61 (ZlJ) func7 Z kr Args.nil PV.ptr_one) qz r1 (qO rr qZ)) V [1,0] [61,0] (fun _=>rfl) (fun _=>rfl) fun τ a w F O=>?_
 try dsimp only [RS.sub,SF.sub,CF.sub,csub,Anc.sub,List.map,rRt,rSq,Zx,rTx,ZB,Zs,ZG,rOp,Zah] at O
 generalize τ 22=v22 at O
 obtain ⟨_,_,_,ho⟩:=O.obGet 61 rfl
 obtain ⟨b1,rfl⟩:=ZgI ho
 clear ho
 replace O:=O.turn 61 Z (r':=RS.hp (ZR (.pointer (some ⟨b1,0,none⟩)) Zc8)) (fun _ _ _ _ h=>h)
 obtain ⟨F,O⟩:=O.nM [1,0] [61,0]
 refine Za (Ya (Ya (rZ O (qR rr (qf (Z3 _ YbB Z .t) r1 qz qZ)) V [24,1,0] [61,0] fun O=>?_)))
 refine Zd O Z (fun hc0=>?_) (fun hc0=>?_)
 ·simp at hc0
 refine Yf (Za (Ya (Zb O (qf (oB [(1,_)] [.bool false,.int .i64 0,.int .i64 0,.int .i64 0] [(0,1),(1,1),(2,1),(3,1)] (.one Z qi one_int kr .nil)) trivial qz (qf (Zy (sz:=4) (zs:=[.bool false,.int .i64 0,.int .i64 0,.int .i64 0]) (r:=[(0,.tmp 25)]) (l:=[_,_,_,_]) Ybz kr kr kr kr Z Z (.agg Z .t kr kr .nil) Z) r1 qz (qf (oB [(0,_),(1,_),(2,.tmp 26)] [.int .i64 0,.bool false,.slice none 0 0] [(0,1),(1,1),(2,1)] (.one Z qi one_int kr (.one Z .cb Zjw kr (.one Z .t Zeu kr .nil)))) r1 qz (qf (Zy (sz:=3) (zs:=[.int .i64 0,.bool false,.slice none 0 0]) (r:=[(0,.tmp 27)]) (l:=[_,_,_]) Ybw kr kr kr kr Z Z (.agg Z .t kr kr .nil) Z) r1 qz (qf (Zy (sz:=1) (zs:=[.int .i64 0]) (r:=[(0,_)]) (l:=[_]) Yby kr kr kr kr Z Z (.one Z qi one_int kr .nil) Z) trivial qz (qf (oB [(0,_),(1,.tmp 29)] [.int .i64 0,.slice none 0 0] [(0,1),(1,1)] (.one Z qi one_int kr (.one Z .t Zeu kr .nil))) r1 qz (qf (Zy (sz:=2) (zs:=[.int .i64 0,.slice none 0 0]) (r:=[(0,.tmp 30)]) (l:=[_,_]) Ybx kr kr kr kr Z Z (.agg Z .t kr kr .nil) Z) r1 qz (qf (oB [(0,.tmp 28),(1,.tmp 31)] [.slice none 0 0,.slice none 0 0] [(0,1),(1,1)] (.one Z .t Zeu kr (.one Z .t Zeu kr .nil))) r2 qz (qf (oH [.slice none 0 0,.slice none 0 0] 101) trivial qz (qS 2 101 r2 r1 qZ)))))))))) V [2,1,0] [101,61,0] (fun _=>rfl) (fun _=>rfl) fun τ a w F O=>?_)))
 try dsimp only [RS.sub,SF.sub,CF.sub,csub,Anc.sub,List.map,Ze,xL,xM,Nat.reduceAdd,xD,xE,xT,xU,xC,xN,zCF,rRt,rSq,Zx,rTx,ZB,Zs,ZG,rOp,Zah] at O
 generalize τ 2=v2 at O
 replace O:=O.turn 101 Z (r':=RS.pt (.val v2) 30 [.pv (.sl rTx [(⟨1,true,[⟨false,5,0,0⟩]⟩:TxD)]),.pv (.sl ZB [⟨5,[1]⟩])]) (Zqp Z Z ⟨Zdc.arrSl (R:=rTx) (l':=[(⟨1,true,[⟨false,5,0,0⟩]⟩:TxD)]) Z ⟨Zdc.refl,Zdc.refl,Zdc.arrSl (R:=rOp) (l':=([⟨false,5,0,0⟩]:List OpD)) Z Zdl.refl,tv⟩,Zdc.arrSl (R:=ZB) (l':=[⟨5,[1]⟩]) Z ⟨Zdc.refl,Zdc.arrSl (R:=ZG) (l':=[1]) Z Zdl.refl,tv⟩,tv⟩)
 obtain ⟨F,O⟩:=O.nM [2,1,0] [101,61,0]
 refine Za (Ya (Zb O (qg 0 101 r1 r1 (qa 101 r1 r1 (qg 1 101 r1 r1 (qa 101 r1 r1 (qf (oB [(1,.tmp 34),(3,.tmp 36)] [.slice none 0 0,.slice none 0 0,.slice none 0 0,.slice none 0 0] [(0,1),(1,1),(2,1),(3,1)] (.one Z .t Zcc kr (.one Z .t Zcc kr .nil))) r2 qz (qf (oH [.slice none 0 0,.slice none 0 0,.slice none 0 0,.slice none 0 0] 102) trivial qz (qS 4 102 r2 r1 qZ))))))) V [3,2,1,0] [102,101,61,0] (fun _=>rfl) (fun _=>rfl) fun τ a w F O=>?_))
 try dsimp only [RS.sub,SF.sub,CF.sub,csub,Anc.sub,List.map,Ze,xL,xM,Nat.reduceAdd,xD,xE,xT,xU,xC,xN,zCF,ldSF,rRt,rSq,Zx,rTx,ZB,Zs,ZG,rOp,Zah] at O
 generalize τ 3=v3 at O
 replace O:=O.turn 102 Z (r':=RS.pt (.val v3) 43 [.pv (.sl rTx []),.pv (.sl rTx [(⟨1,true,[⟨false,5,0,0⟩]⟩:TxD)]),.pv (.sl ZB []),.pv (.sl ZB [⟨5,[1]⟩])]) (Zqp Z Z ⟨Zdc.nilSl,Zdc.refl,Zdc.nilSl,Zdc.refl,tv⟩)
 obtain ⟨F,O⟩:=O.nM [3,2,1,0] [102,101,61,0]
 refine Za (Ya (rZ O (qR rr (qe 4 102 r1 r1 (qf (o_callG1 61 (ZeT b1 sl1 Zax.zero ⟨⟨by decide,by decide,by decide,by decide,by decide,by decide⟩,by decide,by decide,by decide,by decide⟩ lxs2) func23 Z kr (Args.two .t (.pagg .t))) r2 r1 (qO rr qZ)))) V [4,3,2,1,0] [102,101,61,0] fun O=>Ya ?_))
 refine rZ O (qR rr (qe 4 102 r1 r1 (qf (o_callG1 61 (ZeT b1 sl2 ZpI ⟨⟨by decide,by decide,by decide,by decide,by decide,by decide⟩,by decide,by decide,by decide,by decide⟩ lxs3) func23 Z kr (Args.two .t (.pagg .t))) r2 r1 (qO rr qZ)))) V [5,4,3,2,1,0] [102,101,61,0] fun O=>Ya ?_
 refine rZ O (qR rr (qf (o_callG1 61 (ZcW b1 sl3 ZpI ⟨by decide,by decide,by decide,by decide,by decide,by decide⟩) func21 Z kr (Args.one .t)) r1 r1 (qR rr (qf (o_extract .t Z) r1 qz (qf (o_extract .t Z) r1 qz (qO rr (qO rr qZ))))))) V [7,6,5,4,3,2,1,0] [102,101,61,0] fun O=>Ya ?_
 refine rZ O (qR rr (qf (o_callG1 61 (Zk3 b1 (A:=(⟨(⟨[⟨1,0⟩],[⟨5,0⟩],3⟩:RtA),[(0,(⟨[⟨1,0⟩],[⟨5,0⟩],3⟩:RtA))],1,[(⟨1,true,[⟨false,5,0,0⟩]⟩:TxD)],[[1]]⟩:StA)) (w:=6) (by decide) ZoJ ⟨by decide,by decide,by decide,by decide,by decide,by decide⟩) func15 Z kr (Args.one .t)) r1 r1 (qO rr qZ))) V [8,7,6,5,4,3,2,1,0] [102,101,61,0] fun O=>Ya ?_
 refine rZ O (qR rr (qg 0 101 r1 r1 (qa 101 r1 r1 (qg 1 101 r1 r1 (qa 101 r1 r1 (qf (oB [(0,.tmp 53),(2,.tmp 55)] [.slice none 0 0,.slice none 0 0,.slice none 0 0,.slice none 0 0] [(0,1),(1,1),(2,1),(3,1)] (.one Z .t Zcc kr (.one Z .t Zcc kr .nil))) r2 qz (qf (o_callG1 61 (ZeT b1 sl4 ZoJ ⟨⟨by decide,by decide,by decide,by decide,by decide,by decide⟩,by decide,by decide,by decide,by decide⟩ lxs4) func23 Z kr (Args.two .t (.conv (.pagg .t) (Ent.paggLe (l:=[.sl rTx [(⟨1,true,[⟨false,5,0,0⟩]⟩:TxD)],.is (.slice none 0 0),.sl ZB [⟨5,[1]⟩],.is (.slice none 0 0)]) (l':=Zah (⟨[(⟨1,true,[⟨false,5,0,0⟩]⟩:TxD)],[],[⟨5,[1]⟩],[]⟩:ZK)) ⟨Zdc.refl,Zdc.nilSl,Zdc.refl,Zdc.nilSl,tv⟩)))) r2 r1 (qO rr qZ)))))))) V [9,8,7,6,5,4,3,2,1,0] [102,101,61,0] fun O=>Ya ?_
 refine rZ O (qR rr (qf (o_callG1 61 (Zf7 b1 (A:=(⟨(⟨[],[],0⟩:RtA),[(0,(⟨[⟨1,0⟩],[⟨5,0⟩],3⟩:RtA))],1,[(⟨1,true,[⟨false,5,0,0⟩]⟩:TxD)],[[1]]⟩:StA)) (g:=(⟨[],[]⟩:ZS)) Z Zo0 ⟨by decide,by decide,by decide,by decide,by decide,by decide⟩) func14 Z kr (Args.one .t)) r1 r1 (qf (oB [] [.slice none 0 0,.slice none 0 0] [(0,1),(1,1)] .nil) trivial qz (qf (oP (ZgD (⟨[],[]⟩:ZS) (⟨[],[]⟩:ZS)) func13 (Args.two .t (.conv (.pagg .t) (Ent.paggLe (l:=[.is (.slice none 0 0),.is (.slice none 0 0)]) (l':=Zs (⟨[],[]⟩:ZS)) ⟨Zdc.nilSl,Zdc.nilSl,tv⟩)))) r2 qz (qO rr qZ))))) V [10,9,8,7,6,5,4,3,2,1,0] [102,101,61,0] fun O=>Ya ?_
 refine rZ O (qR rr (qf (o_callG1 61 (ZgB b1 sl5 Zo0 ⟨by decide,by decide,by decide,by decide,by decide,by decide⟩) func25 Z kr (Args.two .t qi)) r1 r1 (qR rr (qf (o_callG1 61 (ZgB b1 sl6 Zo0 ⟨by decide,by decide,by decide,by decide,by decide,by decide⟩) func25 Z kr (Args.two .t qi)) r1 r1 (qR rr (qf (o_callG1 61 (Zeq b1 sl7 ZoJ ⟨by decide,by decide,by decide,by decide,by decide,by decide⟩) func26 Z kr (Args.two .t qi)) r1 r1 (qR rr (qf (o_callG1 61 (Zeq b1 sl8 ZpQ ⟨by decide,by decide,by decide,by decide,by decide,by decide⟩) func26 Z kr (Args.two .t qi)) r1 r1 (qO rr (qO rr (qO rr (qO rr qZ)))))))))))) V [14,13,12,11,10,9,8,7,6,5,4,3,2,1,0] [102,101,61,0] fun O=>Ya ?_
 refine rZ O (qR rr (qf (o_callG1 61 (ZcW b1 sl9 ZpQ ⟨by decide,by decide,by decide,by decide,by decide,by decide⟩) func21 Z kr (Args.one .t)) r1 r1 (qR rr (qf (o_extract .t Z) r1 qz (qf (o_extract .t Z) r1 qz (qO rr (qO rr qZ))))))) V [16,15,14,13,12,11,10,9,8,7,6,5,4,3,2,1,0] [102,101,61,0] fun O=>Ya ?_
 refine Zb O (qR rr (qf (o_callG1 61 (Znl b1 (A:=(⟨(⟨[⟨1,0⟩],[⟨5,0⟩],3⟩:RtA),[(1,(⟨[⟨1,0⟩],[⟨5,0⟩],3⟩:RtA))],2,[(⟨1,true,[⟨false,5,0,0⟩]⟩:TxD)],[[1]]⟩:StA)) (id:=1) (t:=(⟨1,true,[⟨false,5,0,0⟩]⟩:TxD)) (w:=true) Z Zph ⟨by decide,by decide,by decide,by decide,by decide,by decide⟩) func11 Z kr (Args.two .t qi)) r1 r1 (qR rr (qf (o_extract .t Z) r1 qz (qf (o_extract .t Z) r1 qz (qf (oH [.int .i64 0,.bool false,.slice none 0 0] 103) trivial qz (qf (oA 3 103 .same (.conv .t .agg)) r2 r1 (qO rr qZ)))))))) V [18,17,16,15,14,13,12,11,10,9,8,7,6,5,4,3,2,1,0] [103,102,101,61,0] (fun _=>rfl) (fun _=>rfl) fun τ a w F O=>?_
 try dsimp only [RS.sub,SF.sub,CF.sub,csub,Anc.sub,List.map,Ze,xL,xM,Nat.reduceAdd,xD,xE,xT,xU,xC,xN,zCF,rRt,rSq,Zx,rTx,ZB,Zs,ZG,rOp,Zah] at O
 generalize τ 17=v17 at O
 refine Za (Ya (rZ O (qC qZ) V [19,18,17,16,15,14,13,12,11,10,9,8,7,6,5,4,3,2,1,0] [103,102,101,61,0] fun O=>Ya ?_))
 refine rZ O (qR rr (qf (oP (Zk6) func21 (Args.one .t)) r1 qz (qR rr (qf (o_extract .t Z) r1 qz (qf (o_extract .t Z) r1 qz (qO rr (qO rr qZ))))))) V [21,19,18,17,16,15,14,13,12,11,10,9,8,7,6,5,4,3,2,1,0] [103,102,101,61,0] fun O=>Ya ?_
 refine Zq O (qR rr (qf (o_eql .t qi) r1 qz (qR rr (Zh.cons (Z2.run Z Z ((by decide +kernel)) (ZF .t (by rfl))) r2 qz (Zh.cons (Z2.run Z Z ((by decide +kernel)) (o_eql .t qi)) r2 qz (qf (ZT .t (.conv .t (Ent.sure (by decide +kernel)))) r2 qz (qR rr (Zh.cons (Z2.run Z Z ((by decide +kernel)) (ZF .t (by rfl))) r2 qz (Zh.cons (Z2.run Z Z ((by decide +kernel)) (o_eql .t qi)) r2 qz (qf (ZT .t (.conv .t (Ent.sure (by decide +kernel)))) r2 qz (qR rr (Zh.cons (Z2.run Z Z ((by decide +kernel)) (ZF .t (by rfl))) r2 qz (Zh.cons (Z2.run Z Z ((by decide +kernel)) (o_eql .t qi)) r2 qz (qf (ZT .t (.conv .t (Ent.sure (by decide +kernel)))) r2 qz (qR rr (Zh.cons (Z2.run Z Z ((by decide +kernel)) (ZF .t (by rfl))) r2 qz (Zh.cons (Z2.run Z Z ((by decide +kernel)) (o_eql .t qi)) r2 qz (qf (ZT .t (.conv .t (Ent.sure (by decide +kernel)))) r2 qz (qR rr (Zh.cons (Z2.run Z Z ((by decide +kernel)) (ZF .t (by rfl))) r2 qz (Zh.cons (Z2.run Z Z ((by decide +kernel)) (o_eql .t qi)) r2 qz (qf (ZT .t (.conv .t (Ent.sure (by decide +kernel)))) r2 qz (qR rr (Zh.cons (Z2.run Z Z ((by decide +kernel)) (ZF .t (by rfl))) r2 qz (qf (ZT .t (.conv .t (Ent.sure (by decide +kernel)))) r2 qz (qR rr (Zh.cons (Z2.run Z Z ((by decide +kernel)) (ZF .t (by rfl))) r2 qz (Zh.cons (Z2.run Z Z ((by decide +kernel)) (o_eql .t qi)) r2 qz (qf (ZT .t (.conv .t (Ent.sure (by decide +kernel)))) r2 qz (qR rr (Zh.cons (Z2.run Z Z ((by decide +kernel)) (ZF .t (by rfl))) r2 qz (Zh.cons (Z2.run Z Z ((by decide +kernel)) (o_eql .t qi)) r2 qz (qf (ZT .t (.conv .t (Ent.sure (by decide +kernel)))) r2 qz (qR rr (Zh.cons (Z2.run Z Z ((by decide +kernel)) (ZF .t (by rfl))) r2 qz (Zh.cons (Z2.run Z Z ((by decide +kernel)) (o_eql .t qi)) r2 qz (qf (ZT .t (.conv .t (Ent.sure (by decide +kernel)))) r2 qz (qR rr (Zh.cons (Z2.run Z Z ((by decide +kernel)) (ZF .t (by rfl))) r2 qz (Zh.cons (Z2.run Z Z ((by decide +kernel)) (o_eql .t qi)) r2 qz (qf (ZT .t (.conv .t (Ent.sure (by decide +kernel)))) r2 qz (qR rr (Zh.cons (Z2.run Z Z ((by decide +kernel)) (ZF .t (by rfl))) r2 qz (Zh.cons (Z2.run Z Z ((by decide +kernel)) (o_eql .t qi)) r2 qz (qf (ZT .t (.conv .t (Ent.sure (by decide +kernel)))) r2 qz (qR rr (Zh.cons (Z2.run Z Z ((by decide +kernel)) (ZF .t (by rfl))) r2 qz (Zh.cons (Z2.run Z Z ((by decide +kernel)) (o_eql .t qi)) r2 qz (qf (ZT .t (.conv .t (Ent.sure (by decide +kernel)))) r2 qz (qR rr (Zh.cons (Z2.run Z Z ((by decide +kernel)) (ZF .t (by rfl))) r2 qz (qf (ZT .t (.conv .t (Ent.sure (by decide +kernel)))) r2 qz (qR rr (Zh.cons (Z2.run Z Z ((by decide +kernel)) (oF 2 103 .is)) r2 r1 (Zh.cons (Z2.run Z Z ((by decide +kernel)) (oL false 1 103 .adr)) r2 r1 (Zh.cons (Z2.run Z Z ((by decide +kernel)) (Zco Ybz .t)) r2 qz (Zh.cons (Z2.run Z Z ((by decide +kernel)) (o_eql .t qi)) r2 qz (qf (ZT .t (.conv .t (Ent.sure (by decide +kernel)))) r2 qz (qR rr (Zh.cons (Z2.run Z Z ((by decide +kernel)) (ZF .t (by rfl))) r2 qz (Zh.cons (Z2.run Z Z ((by decide +kernel)) (o_callG1 61 (ZiW b1 (A:=(⟨(⟨[⟨1,0⟩],[⟨5,0⟩],3⟩:RtA),[(1,(⟨[⟨1,0⟩],[⟨5,0⟩],3⟩:RtA))],2,[(⟨1,true,[⟨false,5,0,0⟩]⟩:TxD)],[[1]]⟩:StA)) (key:=5) (l:=[1]) Z Zph ⟨by decide,by decide,by decide,by decide,by decide,by decide⟩) func19 Z kr (Args.two .t qi))) r2 r1 (Zh.cons (Z2.run Z Z ((by decide +kernel)) (Zy (sz:=1) (zs:=[.int .i64 0]) (r:=[(0,_)]) (l:=[_]) Yby kr kr kr kr Z Z (.one Z qi one_int kr .nil) Z)) r1 qz (Zh.cons (Z2.run Z Z ((by decide +kernel)) (oP (Zgg [1] [1]) func18 (Args.two .t (.conv .t (Ent.arrSl (R:=ZG) (l:=[1]) Z))))) r3 qz (qf (ZT .t (.conv .t (Ent.sure (by decide +kernel)))) r2 qz (qR rr (Zh.cons (Z2.run Z Z ((by decide +kernel)) (ZF .t (by rfl))) r2 qz (Zh.cons (Z2.run Z Z ((by decide +kernel)) (o_callG1 61 (Zf7 b1 (A:=(⟨(⟨[⟨1,0⟩],[⟨5,0⟩],3⟩:RtA),[(1,(⟨[⟨1,0⟩],[⟨5,0⟩],3⟩:RtA))],2,[(⟨1,true,[⟨false,5,0,0⟩]⟩:TxD)],[[1]]⟩:StA)) (g:=(⟨[(⟨1,true,[⟨false,5,0,0⟩]⟩:TxD)],[⟨5,[1]⟩]⟩:ZS)) Z Zph ⟨by decide,by decide,by decide,by decide,by decide,by decide⟩) func14 Z kr (Args.one .t))) r2 r1 (Zh.cons (Z2.run Z Z ((by decide +kernel)) (oL true 2 101 .is)) r2 r1 (Zh.cons (Z2.run Z Z ((by decide +kernel)) (oP (ZgD (⟨[(⟨1,true,[⟨false,5,0,0⟩]⟩:TxD)],[⟨5,[1]⟩]⟩:ZS) (⟨[(⟨1,true,[⟨false,5,0,0⟩]⟩:TxD)],[⟨5,[1]⟩]⟩:ZS)) func13 (Args.two .t (.pagg .t)))) r3 qz (qf (ZT .t (.conv .t (Ent.sure (by decide +kernel)))) r2 qz (qR rr (Zh.cons (Z2.run Z Z ((by decide +kernel)) (ZF .t (by rfl))) r2 qz (Zh.cons (Z2.run Z Z ((by decide +kernel)) (o_eql .t qi)) r2 qz (qf (ZT .t (.conv .t (Ent.sure (by decide +kernel)))) r2 qz (qR rr (Zh.cons (Z2.run Z Z ((by decide +kernel)) (ZF .t (by rfl))) r2 qz (Zh.cons (Z2.run Z Z ((by decide +kernel)) (oL true 4 102 .is)) r2 r1 (Zh.cons (Z2.run Z Z ((by decide +kernel)) (oP (Zn9 (⟨[],[(⟨1,true,[⟨false,5,0,0⟩]⟩:TxD)],[],[⟨5,[1]⟩]⟩:ZK)) func23 (Args.two .t (.pagg .t)))) r3 qz (Zh.cons (Z2.run Z Z ((by decide +kernel)) (o_eql .t qi)) r2 qz (qf (ZT .t (.conv .t (Ent.sure (by decide +kernel)))) r2 qz (qR rr (Zh.cons (Z2.run Z Z ((by decide +kernel)) (ZF .t (by rfl))) r2 qz (Zh.cons (Z2.run Z Z ((by decide +kernel)) (oP (Zk4 0) func25 (Args.two .t qi))) r2 qz (Zh.cons (Z2.run Z Z ((by decide +kernel)) (o_eql .t qi)) r2 qz (qf (ZT .t (.conv .t (Ent.sure (by decide +kernel)))) r2 qz (qR rr (Zh.cons (Z2.run Z Z ((by decide +kernel)) (ZF .t (by rfl))) r2 qz (Zh.cons (Z2.run Z Z ((by decide +kernel)) (oP (Zlc) func15 (Args.one .t))) r2 qz (Zh.cons (Z2.run Z Z ((by decide +kernel)) (o_eql .t qi)) r2 qz (qf (ZT .t (.conv .t (Ent.sure (by decide +kernel)))) r2 qz (qR rr (Zh.cons (Z2.run Z Z ((by decide +kernel)) (ZF .t (by rfl))) r2 qz (Zh.cons (Z2.run Z Z ((by decide +kernel)) (oP (ZkZ) func14 (Args.one .t))) r2 qz (Zh.cons (Z2.run Z Z ((by decide +kernel)) (ZdO (ft:=27) (off:=0) kr kr .t Z)) r2 qz (Zh.cons (Z2.run Z Z ((by decide +kernel)) (Zco Ybw .t)) r2 qz (Zh.cons (Z2.run Z Z ((by decide +kernel)) (o_eql .t qi)) r2 qz (qf (ZT .t (.conv .t (Ent.sure (by decide +kernel)))) r2 qz (qO rr qZ)))))))))))))))))))))))))))))))))))))))))))))))))))))))))))))))))))))))))))))))))))))))))))))))))) V [0] [103,102,101,61,0] Z Z fun a w F O=>?_
 try dsimp only [List.map,Ze,xL,xM,Nat.reduceAdd,xD,xE,xT,xU,xC,xN,zCF,ldSF,rRt,rSq,Zx,rTx,ZB,Zs,ZG,rOp,Zah] at O
 refine Za (Yi (ZP hfr O Z Z Z (.bool (by decide +kernel))))
end Go.Proofs.YtfecljadegkmdaaGreat
