/-
  Texts of this seat: lemmas on the way to the statement.
-/
import Derived.Test.YtijedejhcgeocaaF
import Derived.Test.YtijedejhcgeocaaE
import Derived.KernelRfl
import Derived.Test.YtijedejhcgeocaaProg
namespace Go.Ab
open Go
set_option linter.unusedVariables false
set_option linter.unusedSimpArgs false
set_option maxRecDepth 10000
set_option maxHeartbeats 4000000
variable {K:HCalls} {ars:List Area} {L:List r26_Object} {hi:Int}
theorem e18 (B:KB K) {st:HSt} {sp wb:Nat} {ws:List Int} (S:SpaceAt st sp wb ws) (hwl:ws.length < 1000000000) {ah:HV} (hAr:AreasAt st ah ars) (to:Area) {rs:List Int} (hrs:rs.length < 100000) (hro:∀ p ∈ rs,AddrOk L p) {al:HV} {l:List Int} (hal:IntsAt st al l) (hbw:∀ b n,al = .row b 0 n 1→b ≠ wb) (hl:l.length < 100000) (hnd:l.Nodup) (hob:∀ p ∈ l,∃ o ∈ L,o.At=p∧inAny ars p=false)
    (M:Mk ars L to.Next hi (live L ars rs l)) (hptr:∀ o ∈ L,PtrOk L o) (hok:∀ o ∈ L,OkSh o.Shape∧(o.Slots.length:Int)=o.Shape.Slots) (H0:MVI L ars to.Next hi ws [] (nf L ars)) :
    ∃ st' ws' n0 oh,(∀ n,n0 ≤ n→evHF C0 K TH n 18 [.ptr sp 0,ah,hA to,hN rs,al] st=some (mkTup [hA ⟨to.Lo,to.Hi,endT L to.Next (live L ars rs l)⟩,oh],st'))∧SpaceAt st' sp wb ws' ∧ ws'.length=ws.length ∧
      MVI L ars to.Next hi ws' (live L ars rs l) ((nf L ars).map (trnIf L to.Next (live L ars rs l) l) ++ (cps L to.Next (live L ars rs l)).map (trnO L to.Next (live L ars rs l)))∧RowI st.length st' oh (rs.map (mv L to.Next (live L ars rs l)))∧Keeps wb st st':=by
  obtain ⟨ls,lw,lne⟩:=S.lt
  obtain ⟨F,hF⟩:∃ F,live L ars rs l=F:=⟨_,rfl⟩
  rw [hF] at M ⊢
  have hFb:F=bfs L ars (L.length + 1) 0 (mtL ars (mtL ars [] rs) (l.flatMap (ptrsAt L))):=hF.symm
  obtain ⟨r0,hr0⟩:=bfs_pre L ars (L.length + 1) 0 (mtL ars (mtL ars [] rs) (l.flatMap (ptrsAt L)))
  obtain ⟨r1,hr1⟩:=mtL_pre ars (l.flatMap (ptrsAt L)) (mtL ars [] rs)
  let N:=st.length
  let g:HSt:=[.box [hI to.Lo,hI to.Hi,hI to.Next],.box [.ptr (st.length + 2) 0],.box [.ptr sp 0,ah,hI to.Lo,hI to.Hi,hI to.Next]]
  have hab:∀ b,ah = .row b 0 ars.length 3→b < st.length:=fun b e=>by
    rcases hAr with h | ⟨b',h1,h2⟩
    · rw [h] at e;cases e
    · rw [h1] at e;cases e;exact (List.getElem?_eq_some_iff.1 h2).1
  have hbl:∀ b,al = .row b 0 l.length 1→b ≠ wb∧b ≠ st.length + 2:=fun b e=>by
    refine ⟨hbw b _ e,?_⟩
    rcases hal with ⟨h,_⟩ | h | ⟨b',h1,h2⟩
    · rw [h] at e;cases e
    · rw [h] at e;cases e
    · rw [h1] at e;cases e;have:=(List.getElem?_eq_some_iff.1 h2).1;omega
  have start:∀ g2:HSt,MS st.length (st.length + 2) sp wb ah ars L to.Lo to.Hi to.Next hi (st ++ (g ++ g2)) ws [] (nf L ars ++ cps L to.Next []):=fun g2 =>
    ⟨S.app _,hAr.app _,by rw [getElem?_len];rfl,by simpa [cps] using H0,by simp,⟨ls,lw,by omega,hab⟩,hwl⟩
  have b12:∀ g2:HSt,(st ++ (g ++ g2))[st.length + 1]? = some (.box [.ptr (st.length + 2) 0]):=fun g2=>by rw [getElem?_len];rfl
  have h12:st.length + 1 ≠ wb∧st.length + 1 ≠ st.length + 2∧st.length ≤ st.length + 1:=⟨by omega,by omega,by omega⟩
  obtain ⟨g2,oh,hg2,hO⟩:∃ (g2:HSt) (oh:HV),((rs.length=0∧g2=[]∧oh = .p .nils) ∨ (rs.length ≠ 0∧g2=[.row 1 rs.length ((rep rs.length [.int .i64 0]).map .p)]∧oh = .row (st.length + 3) 0 rs.length 1))∧OutR st.length (st.length + 2) (st ++ (g ++ g2)) oh (List.replicate rs.length 0):=by
    by_cases h:rs.length=0
    · exact ⟨[],.p .nils,.inl ⟨h,rfl,rfl⟩,.inl ⟨by rw [h];rfl,rfl⟩⟩
    · refine ⟨_,_,.inr ⟨h,rfl,rfl⟩,.inr ⟨st.length + 3,by simpa using h,by omega,by omega,by simp,?_⟩⟩
      rw [getElem?_len,List.length_replicate,rep_eq,← intmap];rfl
  obtain ⟨st1,ws1,vals,q1,H1,hl1,b1,hO1,hv1,k1,k2,k3⟩:=loop18a B M (p7:=st.length) (p12:=st.length + 1) h12 (al:=al) (v10:=.p (.box [.int .i64 0,.int .i64 0,.int .i64 0])) hrs hro rs.length 0 _ ws [] oh _ (by omega) (by omega) (start g2) (b12 g2) hO (by simp) (fun j v hj=>by omega) ⟨r1 ++ r0,by rw [List.drop_zero,hFb,hr0,hr1,List.append_assoc]⟩
  rw [List.drop_zero] at H1
  have hA1:IntsAt st1 al l:=by
    rcases hal with h | h | ⟨b,h1,h2⟩
    · exact .inl h
    · exact .inr (.inl h)
    · have h3:=hbl b h1
      have hbl':=(List.getElem?_eq_some_iff.1 h2).1
      exact .inr (.inr ⟨b,h1,by rw [k1 b hbl' h3.1,get_lt hbl'];exact h2⟩)
  have e0:(nf L ars).map (trnIf L to.Next F (l.take 0))=nf L ars:=by
    rw [List.take_zero]
    exact (List.map_congr_left (fun o _=>by simp [trnIf])).trans (List.map_id _)
  obtain ⟨st2,ws2,q2,H2,hl2,S2⟩:=loop18b B M hptr (p7:=st.length) (p12:=st.length + 1) h12 (al:=al) (oh:=oh) (v10:=.p (.box [.int .i64 0,.int .i64 0,.int .i64 0])) hl hbl hnd hob l.length 0 st1 ws1 (mtL ars [] rs) (by omega) (by omega) hA1 (by rw [e0];exact H1) b1 ⟨r0,by rw [List.drop_zero,hFb,hr0]⟩
  rw [List.drop_zero] at H2
  have b2:=S2.box _ _ (by omega) b1
  obtain ⟨st3,ws3,q3,H3,hl3,S3⟩:=loop18c B M hptr hok (p12:=st.length + 1) h12 (oh:=oh) (v10:=.p (.box [.int .i64 0,.int .i64 0,.int .i64 0])) ((nf L ars).map (trnIf L to.Next F l)) (L.length + 1) 0 st2 ws2 (mtL ars (mtL ars [] rs) (l.flatMap (ptrsAt L))) (by omega) (by omega) (by simpa using H2) b2 hFb
  have b3:=S3.box _ _ (by omega) b2
  have hO3:=(hO1.stay lw S2).stay lw S3
  rw [hv1] at hO3
  rw [List.take_zero] at q3
  simp only [endT] at q3
  obtain ⟨n1,hn1⟩:=Run.all q1
  obtain ⟨n2,hn2⟩:=Run.all q2
  obtain ⟨n3,hn3⟩:=Run.all q3
  have hn1':=fun j k=>hn1 (n1 + n2 + n3 + j) (n1 + n2 + n3 + k) (by omega) (by omega)
  have hn2':=fun j k=>hn2 (n1 + n2 + n3 + j) (n1 + n2 + n3 + k) (by omega) (by omega)
  have hn3':=fun j k=>hn3 (n1 + n2 + n3 + j) (n1 + n2 + n3 + k) (by omega) (by omega)
  have z0:((0:Nat):Int)=0:=rfl
  have bm3:=H3.bm
  have lm3:=(List.getElem?_eq_some_iff.1 bm3).1
  have l123:=(List.getElem?_eq_some_iff.1 b3).1
  have b70:st3[st.length]? = some (.box [hI to.Lo,hI to.Hi,hI to.Next]):=by
    refine S3.box _ _ (by omega) (S2.box _ _ (by omega) (k2 _ _ (by omega) ?_))
    rw [getElem?_len0];rfl
  have b72:st2[st.length]? = some (.box [hI to.Lo,hI to.Hi,hI to.Next]):=by
    refine S2.box _ _ (by omega) (k2 _ _ (by omega) ?_)
    rw [getElem?_len0];rfl
  have q4:rs.length * 8 ≤ 1099511627776:=by omega
  have q5:rs.length ≤ 1099511627776:=by omega
  have q6:(rep rs.length [PV.int .i64 0]).all PV.free=true:=List.all_eq_true.2 (rep_free rs.length)
  have q7:(∀ x ∈ rep rs.length [PV.int .i64 0],PV.free x=true)=True:=eq_true (rep_free rs.length)
  refine ⟨st3 ++ [.box [hI to.Lo,hI to.Hi,hI (endT L to.Next F)]],ws3,n1 + n2 + n3 + 60,oh,fun n hn=>evHF_mono hn _ _ _ _ (evHF_in (n:=n1 + n2 + n3 + 59) (B.no 18 rfl) (x:=h18) rfl rfl ?_),H3.S.app _,by omega,H3.I,?_,?_⟩
  · simp only [env18a,env18b,env18c,hI,z0,g,List.cons_append,List.nil_append] at hn1' hn2' hn3'
    rcases hg2 with ⟨h0,rfl,rfl⟩ | ⟨h0,rfl,rfl⟩
    · have:rs=[]:=List.eq_nil_of_length_eq_zero h0
      subst this
      simp only [hN,List.length_nil,List.flatMap_nil,z0,List.append_nil] at hn1'
      rcases hAr.sh with ⟨q,cs,rfl⟩ | ⟨b,o,q,z,rfl⟩ <;> rcases hal with ⟨rfl,rfl⟩ | rfl | ⟨b',rfl,_⟩
      all_goals (try simp only [List.length_nil,z0] at hn2')
      all_goals simp (config:={ maxSteps:=4000000 }) [↓hs_pre,↓evP_call0',hs_eq,-getElem?_pos,List.getElem?_cons_zero,List.getElem?_cons_succ,get_lt,set_lt,get_set_ne,get_set_self,get_off,get_off0,set_off,set_off0,len_set,h18,ls,lw,q4,q5,q6,q7,hn1',hn2',hn3',bm3,b3,lm3,l123,b72]
    · rcases hAr.sh with ⟨q,cs,rfl⟩ | ⟨b,o,q,z,rfl⟩ <;> rcases hal with ⟨rfl,rfl⟩ | rfl | ⟨b',rfl,_⟩
      all_goals (try simp only [List.length_nil,z0] at hn2')
      all_goals simp (config:={ maxSteps:=4000000 }) [↓hs_pre,↓evP_call0',hs_eq,-getElem?_pos,List.getElem?_cons_zero,List.getElem?_cons_succ,get_lt,set_lt,get_set_ne,get_set_self,get_off,get_off0,set_off,set_off0,len_set,h18,h0,ls,lw,q4,q5,q6,q7,hn1',hn2',hn3',bm3,b3,lm3,l123,b72]
  · rcases hO3 with ⟨h1,h2⟩ | ⟨ob,h1,h2,h3,h4,h5⟩
    · exact .inl ⟨h1,h2⟩
    · exact .inr ⟨ob,h1,h2,h4,by rw [get_lt (List.getElem?_eq_some_iff.1 h5).1];exact h5⟩
  · refine ⟨?_,fun i hi hn=>?_⟩
    · have:=H3.ge;simp;omega
    · rw [get_lt (by have:=H3.ge;omega),S3.low i hi hn,S2.low i hi hn,k1 i hi hn,get_lt hi]
end Go.Ab
namespace Go.Ab
open Go
set_option linter.unusedVariables false
set_option linter.unusedSimpArgs false
theorem mem_mt {ars:List Area} {out:List Int} {p:Int} (h:inAny ars p=true):p ∈ mt ars out p:=by
  unfold mt
  by_cases hc:p ∈ out
  · simp [h,hc]
  · simp [h,hc]
theorem mtL_mono {ars:List Area} {ps out:List Int} {q:Int} (h:q ∈ out):q ∈ mtL ars out ps:=by
  obtain ⟨r,hr⟩:=mtL_pre ars ps out
  rw [hr];exact List.mem_append_left _ h
theorem mem_mtL {ars:List Area}:∀ {ps out:List Int} {q:Int},q ∈ ps→inAny ars q=true→q ∈ mtL ars out ps
  | p :: ps,out,q,h,hi=>by
    rw [mtL_cons]
    rcases List.mem_cons.1 h with rfl | h
    · exact mtL_mono (mem_mt hi)
    · exact mem_mtL h hi
theorem bfs_pre' (L:List r26_Object) (ars:List Area):∀ (k i:Nat) (out:List Int),∃ r,bfs L ars k i out=out ++ r
  | 0,i,out=>⟨[],by simp [bfs]⟩
  | k + 1,i,out=>by
    simp only [bfs]
    split
    · rename_i p hp
      obtain ⟨r1,h1⟩:=mtL_pre ars (ptrsAt L p) out
      obtain ⟨r2,h2⟩:=bfs_pre' L ars k (i + 1) (mtL ars out (ptrsAt L p))
      exact ⟨r1 ++ r2,by rw [h2,h1,List.append_assoc]⟩
    · exact ⟨[],by simp⟩
theorem bfs_closed {L:List r26_Object} {ars:List Area} (hz:inAny ars 0=false) (hp:∀ o ∈ L,PtrOk L o):∀ (k i:Nat) (out:List Int),L.length + 1 ≤ k + i→i ≤ out.length→OutOk L ars out→(∀ (j:Nat) (p:Int),j < i→out[j]? = some p → ∀ q ∈ ptrsAt L p,inAny ars q=true→q ∈ out) →
    OutOk L ars (bfs L ars k i out) ∧ ∀ p ∈ bfs L ars k i out,∀ q ∈ ptrsAt L p,inAny ars q=true→q ∈ bfs L ars k i out
  | 0,i,out,h1,h2,ho,hc=>by have:=ho.le;omega
  | k + 1,i,out,h1,h2,ho,hc=>by
    by_cases hil:i < out.length
    · have hv:out[i]? = some out[i]:=by simp [hil]
      simp only [bfs,hv]
      obtain ⟨r1,hr1⟩:=mtL_pre ars (ptrsAt L out[i]) out
      refine bfs_closed hz hp k (i + 1) _ (by omega) (by rw [hr1];simp;omega) (ho.mtL hz (ptrsAt_ok hp _)) fun j p hj hjp q hq hi=>?_
      rw [hr1,List.getElem?_append_left (by omega)] at hjp
      by_cases e:j=i
      · subst e
        rw [hv] at hjp;cases hjp
        exact mem_mtL hq hi
      · exact mtL_mono (hc j p (by omega) hjp q hq hi)
    · have:out[i]? = none:=List.getElem?_eq_none (by omega)
      simp only [bfs,this]
      refine ⟨ho,fun p hpm q hq hi=>?_⟩
      obtain ⟨j,hj⟩:=List.getElem?_of_mem hpm
      have:=(List.getElem?_eq_some_iff.1 hj).1
      exact hc j p (by omega) hj q hq hi
theorem live_ok {L:List r26_Object} {ars:List Area} (hz:inAny ars 0=false) (hp:∀ o ∈ L,PtrOk L o) {rs al:List Int} (hr:∀ p ∈ rs,AddrOk L p):OutOk L ars (live L ars rs al)∧(∀ p ∈ rs,inAny ars p=true→p ∈ live L ars rs al) ∧ ∀ p ∈ live L ars rs al,∀ q ∈ ptrsAt L p,inAny ars q=true→q ∈ live L ars rs al:=by
  have h1:OutOk L ars (mtL ars [] rs):=(OutOk.nil L ars).mtL hz hr
  have h2:OutOk L ars (mtL ars (mtL ars [] rs) (al.flatMap (ptrsAt L))):=h1.mtL hz fun p h=>by
    obtain ⟨a,_,h⟩:=List.mem_flatMap.1 h
    exact ptrsAt_ok hp a p h
  obtain ⟨h3,h4⟩:=bfs_closed hz hp (L.length + 1) 0 _ (by omega) (by omega) h2 (fun j p hj=>by omega)
  refine ⟨h3,fun p hpr hi=>?_,h4⟩
  obtain ⟨r,hr⟩:=bfs_pre' L ars (L.length + 1) 0 (mtL ars (mtL ars [] rs) (al.flatMap (ptrsAt L)))
  unfold live
  rw [hr]
  exact List.mem_append_left _ (mtL_mono (mem_mtL hpr hi))
variable {L:List r26_Object}
theorem mvd_ge:∀ {d:List Int} {t q:Int},q ∈ d→t ≤ mvd d (tos L t d) q
  | p :: r,t,q,h=>by
    simp only [tos,mvd]
    by_cases hp:p=q
    · rw [if_pos hp];omega
    · rw [if_neg hp]
      have:=mvd_ge (d:=r) (t:=t + 1 + slN L p) ((List.mem_cons.1 h).resolve_left fun e=>hp e.symm)
      omega
theorem mvd_inj:∀ {d:List Int} {t x y:Int},x ∈ d→y ∈ d→mvd d (tos L t d) x=mvd d (tos L t d) y→x=y
  | p :: r,t,x,y,hx,hy,h=>by
    simp only [tos,mvd] at h
    by_cases h1:p=x
    · by_cases h2:p=y
      · rw [← h1,← h2]
      · rw [if_pos h1,if_neg h2] at h
        have:=mvd_ge (L:=L) (d:=r) (t:=t + 1 + slN L p) ((List.mem_cons.1 hy).resolve_left fun e=>h2 e.symm)
        omega
    · by_cases h2:p=y
      · rw [if_neg h1,if_pos h2] at h
        have:=mvd_ge (L:=L) (d:=r) (t:=t + 1 + slN L p) ((List.mem_cons.1 hx).resolve_left fun e=>h1 e.symm)
        omega
      · rw [if_neg h1,if_neg h2] at h
        exact mvd_inj ((List.mem_cons.1 hx).resolve_left fun e=>h1 e.symm) ((List.mem_cons.1 hy).resolve_left fun e=>h2 e.symm) h
theorem roots_eq (L:List r26_Object) (hL:L.length < 100000) (fr:List Int) (hf:fr.length < 100000) (hfr:∀ x ∈ fr,0 ≤ x∧x < 256):∃ rs,l26_roots L fr=some rs∧rs.length=fr.length ∧ ∀ p ∈ rs,AddrOk L p:=by
  have w0:IntKind.wrap .i64 ((L.length:Int) + 1)=(L.length:Int) + 1:=wr64 (by omega) (by omega)
  have key:∃ r,l26_roots_l5 L fr ([],0)=some r∧(r.length=fr.length ∧ ∀ p ∈ r,AddrOk L p):=by
    refine runL_up (σ:=List Int × Int) (ρ:=List Int) fr.length (fun s=>s.2) (fun s=>s.1.length=s.2.toNat ∧ ∀ p ∈ s.1,AddrOk L p) (fun r=>r.length=fr.length ∧ ∀ p ∈ r,AddrOk L p) (fun s hI h0 h1=>?_) _ ⟨rfl,fun p h=>by cases h⟩ (Int.le_refl _) (by simp)
    obtain ⟨out,i⟩:=s
    simp only at hI h0 h1 ⊢
    unfold l26_roots_l5_b
    by_cases hlt:i < fr.length
    · obtain ⟨x,hx,hx'⟩:=ix_of_lt h0 hlt
      have hxr:=hfr x (List.mem_of_getElem? hx')
      right
      have w1:IntKind.wrap .i64 x=x:=wr64 (by omega) (by omega)
      have hm0:0 ≤ Int.tmod x ((L.length:Int) + 1):=Int.tmod_nonneg _ hxr.1
      have hm1:Int.tmod x ((L.length:Int) + 1) < (L.length:Int) + 1:=Int.tmod_lt_of_pos _ (by omega)
      rw [if_pos (by simpa using hlt),hx,Option.bind_some,w0,if_neg (by simp;omega)]
      unfold l26_roots_j4
      rw [w0,w1]
      have happ:∀ v,app out [v] 8=some (out ++ [v]):=fun v=>by unfold app;rw [if_pos (by simp;omega)]
      have w2:IntKind.wrap .i64 (i + 1)=i + 1:=wr64 (by omega) (by omega)
      by_cases hk:Int.tmod x ((L.length:Int) + 1) < L.length
      · obtain ⟨o,ho,ho'⟩:=ix_of_lt hm0 hk
        rw [if_pos (by simpa using hk),ho,Option.bind_some,happ,w2]
        refine ⟨_,rfl,⟨by simp;omega,fun p hp=>?_⟩,rfl,by simp only;omega⟩
        rcases List.mem_append.1 hp with hp | hp
        · exact hI.2 p hp
        · rw [List.mem_singleton] at hp;subst hp;exact .inr ⟨o,List.mem_of_getElem? ho',rfl⟩
      · rw [if_neg (by simpa using hk),happ,w2]
        refine ⟨_,rfl,⟨by simp;omega,fun p hp=>?_⟩,rfl,by simp only;omega⟩
        rcases List.mem_append.1 hp with hp | hp
        · exact hI.2 p hp
        · rw [List.mem_singleton] at hp;subst hp;exact .inl rfl
    · left
      exact ⟨out,by rw [if_neg (by simpa using hlt)],by have:=hI.1;omega,hI.2⟩
  obtain ⟨r,h1,h2,h3⟩:=key
  refine ⟨r,?_,h2,h3⟩
  unfold l26_roots
  rw [h1];rfl
end Go.Ab
namespace Go.Ab
open Go
set_option linter.unusedVariables false
set_option linter.unusedSimpArgs false
set_option maxRecDepth 100000
set_option maxHeartbeats 4000000
def isTrueH:Option (HV × HSt)→Bool
  | some (.p (.bool true),_)=>true
  | _=>false
theorem isTrueH_some {r:Option (HV × HSt)} (h:isTrueH r=true):∃ st,r=some (.p (.bool true),st):=by
  unfold isTrueH at h
  split at h
  · exact ⟨_,rfl⟩
  · cases h
def KN:HCalls:=fun _ _ _=>Option.none
theorem KN_ok {P:Program}:HCallOk P KN:=fun _ _ _ _ _ h=>by cases h
theorem w15:isTrueH (evHF C0 KN TH 300 15 [] [])=true:=by kernel_rfl
def KW:HCalls:=fun f ws st=>if f=15 then sealed (evHF C0 KN TH 300) f ws st else Option.none
theorem KW_15 (st:HSt):KW 15 [] st=some (.p (.bool true),st):=by
  obtain ⟨st',h⟩:=isTrueH_some w15
  simp [KW,sealed,h,PV.flat,PV.flat1]
theorem KW_no {f:Nat} (h:f ≠ 15):KW f=fun _ _=>Option.none:=by
  funext ws st;exact if_neg h
theorem KW_ok {P:Program} (hm:P.follows .mixedOrders=true) (hT:TOkH P TH):HCallOk P KW:=by
  intro f ws st r st' h
  unfold KW at h
  split at h
  · exact sealed_ok (evHF_sound hm C0_ok KN_ok hT 300) f ws st r st' h
  · cases h
noncomputable def KS0:HCalls:=orK KW KP
noncomputable def KS1:HCalls:=lev KS0 [22,24,64,65,66] [114,76,27,28,18,31]
noncomputable def KS2:HCalls:=lev KS1 [] [68,69]
theorem KP_none {f:Nat} (h:lp.contains f=false) (ws:List HV) (st:HSt):KP f ws st=Option.none:=by
  have hc:∀ vs,pureC T lp f vs=Option.none:=fun vs=>by unfold pureC;rw [h];rfl
  unfold KP orK pureK lentC
  simp only [hc]
  split
  · rename_i r hr
    split at hr
    · split at hr
      · split at hr <;> cases hr
      · cases hr
    · cases hr
  · split <;> rfl
theorem KS0_none {f:Nat} (h:lp.contains f=false) (h2:f ≠ 15) (ws:List HV) (st:HSt):KS0 f ws st=Option.none:=by
  unfold KS0 orK
  rw [KW_no h2]
  exact KP_none h ws st
theorem KS0_B:KB KS0 where
  pu f hf:=by
    funext ws st
    unfold KS0 orK
    rw [KW_no (fun e=>by subst e;exact absurd hf (by decide))]
  no f hf ws st:=by
    refine KS0_none ?_ (fun e=>by subst e;exact absurd hf (by decide)) ws st
    simp only [lw,List.contains_eq_mem,List.mem_cons,List.not_mem_nil,or_false,decide_eq_true_eq] at hf
    rcases hf with rfl | rfl | rfl | rfl | rfl | rfl | rfl | rfl | rfl | rfl | rfl | rfl | rfl | rfl | rfl | rfl | rfl | rfl | rfl <;> decide
theorem KS1_D:KD KS1:=KD_of KS0_B (KS0_none (by decide) (by decide)) (by decide) (by decide) (by decide)
theorem KS1_none {f:Nat} (h:lp.contains f=false) (h2:f ≠ 15) (h3:[22,24,64,65,66,114,76,27,28,18,31].contains f=false) (ws:List HV) (st:HSt):KS1 f ws st=Option.none:=by
  simp only [List.contains_eq_mem,List.mem_cons,List.not_mem_nil,or_false,decide_eq_false_iff_not,not_or] at h3
  unfold KS1
  rw [lev_none (by simp;omega) (by simp;omega)]
  exact KS0_none h h2 ws st
theorem KS2_E:KE KS2:=KE_of KS1_D ⟨KS1_none (by decide) (by decide) (by decide),KS1_none (by decide) (by decide) (by decide)⟩ (by decide) (by decide)
theorem KS2_none {f:Nat} (h:lp.contains f=false) (h2:f ≠ 15) (h3:[22,24,64,65,66,114,76,27,28,18,31,68,69].contains f=false) (ws:List HV) (st:HSt):KS2 f ws st=Option.none:=by
  simp only [List.contains_eq_mem,List.mem_cons,List.not_mem_nil,or_false,decide_eq_false_iff_not,not_or] at h3
  unfold KS2
  rw [lev_none (by simp) (by simp;omega)]
  refine KS1_none h h2 ?_ ws st
  simp;omega
theorem KS2_15 (st:HSt):KS2 15 [] st=some (.p (.bool true),st):=by
  unfold KS2
  rw [lev_none (by decide) (by decide)]
  unfold KS1
  rw [lev_none (by decide) (by decide)]
  unfold KS0 orK
  rw [KW_15]
theorem ks2Ok' {P:Program} (hm:P.follows .mixedOrders=true) (hT:TOk P T) (hTH:TOkH P TH):HCallOk P (evHI C0 KS2 TH):=by
  have h0:HCallOk P KP:=orK_ok (pureK_ok (pureC_ok hm hT lp)) (lentC_ok (pureC_ok hm hT lp))
  exact evHI_sound hm C0_ok (lev_ok hm hTH (lev_ok hm hTH (orK_ok (KW_ok hm hTH) h0) _ _) _ _) hTH
end Go.Ab
namespace Go.Ab
open Go
set_option linter.unusedVariables false
set_option linter.unusedSimpArgs false
set_option maxRecDepth 10000
set_option maxHeartbeats 4000000
variable {K:HCalls}
def env20 (h g:HV) (i:Nat):HEnv:=[(0,h),(3,g),(4,hI i)]
theorem step20 {st:HSt} {base:Nat} (hbase:base ≤ st.length) {h:HV} {l:List Int} {b0:Nat} (R:RowI b0 st h l) (hb0:∀ b,h = .row b 0 l.length 1→b < base) {i:Nat} {v:Int} (hv:l[i]? = some v) (hl:l.length < 90000) {g:HV} {xs:List Int} (hxs:xs.length < 90000) (G:RowI base st g xs) :
    ∃ st1 g1,Run C0 K TH h20l0 (env20 h g i,st) .norm (env20 h g1 (i + 1),st1)∧RowI base st1 g1 (xs ++ [v])∧Same base st st1:=by
  have hil:i < l.length:=(List.getElem?_eq_some_iff.1 hv).1
  have hil':(i:Int) < l.length:=by omega
  have w:=wrN (i:=i) (by omega)
  have i1:i + 1 ≤ l.length:=by omega
  rcases R with ⟨rfl,_⟩ | ⟨b,hne,hb,rfl,hst⟩
  · simp at hil
  have hbb:=hb0 b rfl
  have c3:(l.map fun n=>HV.p (.int .i64 n))[i]? = some (hI v):=by simp [hv]
  obtain ⟨cs,hcs⟩:∃ cs,(l.map fun n=>HV.p (.int .i64 n))=cs:=⟨_,rfl⟩
  have c4:cs.length=l.length:=by rw [← hcs];simp
  rw [hcs] at hst c3
  rcases G with ⟨rfl,rfl⟩ | ⟨c,hcne,hc,rfl,hct⟩
  · apply Exists.intro
    apply Exists.intro
    refine ⟨Run.of 60 ?_,?_,?_⟩
    · simp (config:={ maxSteps:=4000000 }) [↓hs_pre,↓evP_call0',hs_eq,-getElem?_pos,List.getElem?_cons_zero,List.getElem?_cons_succ,get_lt,set_lt,get_set_ne,get_set_self,get_off,get_off0,set_off,set_off0,len_set,h20l0,env20,hil,hil',w,i1,hst,c3,c4]
      all_goals exact ⟨rfl,rfl⟩
    · exact .inr ⟨st.length + 1,by simp,by omega,rfl,by rw [getElem?_len];rfl⟩
    · exact Same.app hbase _
  · have hcl:c < st.length:=(List.getElem?_eq_some_iff.1 hct).1
    have hx0:0 < xs.length:=List.length_pos_iff.2 hcne
    obtain ⟨m,hm⟩:∃ m,xs.length=m:=⟨_,rfl⟩
    have f4:∀ g:HSt,(st ++ g)[c]? = some (.row 1 xs.length (xs.map fun n=>.p (.int .i64 n))):=fun g=>by rw [List.getElem?_append_left hcl];exact hct
    have d1:(m + 1) * 8 ≤ 1099511627776:=by omega
    have d2:m + 1 ≤ 1099511627776:=by omega
    have d3:(xs.map fun n=>HV.p (.int .i64 n)).take m=xs.map fun n=>HV.p (.int .i64 n):=List.take_of_length_le (by simp;omega)
    have f5:∀ (g:HSt) (x:HB),(st ++ g).set c x=st.set c x ++ g:=fun g x=>List.set_append_left _ _ hcl
    rw [hm] at f4
    simp only [hm]
    apply Exists.intro
    apply Exists.intro
    refine ⟨Run.of 60 ?_,?_,?_⟩
    · simp (config:={ maxSteps:=4000000 }) [↓hs_pre,↓evP_call0',hs_eq,-getElem?_pos,List.getElem?_cons_zero,List.getElem?_cons_succ,get_lt,set_lt,get_set_ne,get_set_self,get_off,get_off0,set_off,set_off0,len_set,h20l0,env20,hil,hil',w,i1,hst,c3,c4,f4,f5,d1,d2,d3,hm]
      all_goals exact ⟨rfl,rfl⟩
    · refine .inr ⟨_,by simp,?_,by simp [hm];rfl,?_⟩
      rotate_left
      · simp [hm]
      · omega
    · exact Same.setapp hbase hc _ _
theorem stop20 {st:HSt} {h g:HV} {l:List Int} {b0 b1:Nat} {xs:List Int} (R:RowI b0 st h l) (G:RowI b1 st g xs):Run C0 K TH h20l0 (env20 h g l.length,st) (.exit 0) ([(3,g)],st):=by
  rcases R.sh with rfl | ⟨b,n,rfl⟩ <;> rcases G.sh with rfl | ⟨c,k,rfl⟩
  all_goals
    refine Run.of 60 ?_
    first
    | (rcases R with ⟨rfl,_⟩ | ⟨_,_,_,h4,_⟩ <;> first | (cases h4;done) | (simp (config:={ maxSteps:=4000000 }) [↓hs_pre,↓evP_call0',hs_eq,h20l0,env20];done))
    | (rcases R with ⟨_,h4⟩ | ⟨_,_,_,h4,_⟩ <;> cases h4;simp (config:={ maxSteps:=4000000 }) [↓hs_pre,↓evP_call0',hs_eq,h20l0,env20])
theorem loop20 {base:Nat} {h:HV} {l:List Int} {b0:Nat} (hb0:∀ b,h = .row b 0 l.length 1→b < base) (hl:l.length < 40000):∀ (m i:Nat) (st:HSt) (g:HV) (xs:List Int),l.length - i=m→i ≤ l.length→xs.length ≤ i→base ≤ st.length→RowI b0 st h l→RowI base st g xs →
    ∃ st1 g1,Run C0 K TH (.loop h20l0 [0,3,4]) (env20 h g i,st) (.exit 0) ([(3,g1)],st1)∧RowI base st1 g1 (xs ++ l.drop i)∧Same base st st1
  | 0,i,st,g,xs,hm,hi,hx,hb,R,G=>by
    have:i=l.length:=by omega
    subst this
    exact ⟨st,g,Run.loopX (stop20 R G) (by simp),by rw [List.drop_length,List.append_nil];exact G,Same.refl _ _⟩
  | m + 1,i,st,g,xs,hm,hi,hx,hb,R,G=>by
    have hil:i < l.length:=by omega
    obtain ⟨st1,g1,r1,G1,S1⟩:=step20 hb R hb0 (i:=i) (v:=l[i]) (by simp [hil]) (by omega) (by omega) G
    have R1:RowI b0 st1 h l:=by
      rcases R with h1 | ⟨b,h1,h2,h3,h4⟩
      · exact .inl h1
      · exact .inr ⟨b,h1,h2,h3,S1.some (hb0 b h3) h4⟩
    obtain ⟨st2,g2,r2,G2,S2⟩:=loop20 hb0 hl m (i + 1) st1 g1 (xs ++ [l[i]]) (by omega) (by omega) (by simp;omega) (Nat.le_trans hb S1.len) R1 G1
    refine ⟨st2,g2,Run.loopN r1 ?_,by rw [List.drop_eq_getElem_cons hil];simpa using G2,S1.trans S2⟩
    have:(env20 h g1 (i + 1)).keep [0,3,4]=env20 h g1 (i + 1):=by simp [env20,HEnv.keep]
    rw [this];exact r2
theorem e20 (hk:∀ ws st,K 20 ws st = .none) {st:HSt} {h:HV} {l:List Int} {b0:Nat} (R:RowI b0 st h l) (hl:l.length < 40000) :
    ∃ st1 g1 n0,(∀ n,n0 ≤ n→evHF C0 K TH n 20 [h] st=some (g1,st1))∧RowI st.length st1 g1 l∧Same st.length st st1:=by
  have hb0:∀ b,h = .row b 0 l.length 1→b < st.length:=fun b e=>by
    rcases R with ⟨_,h1⟩ | ⟨b',h1,h2,h3,h4⟩
    · rw [h1] at e;cases e
    · rw [h3] at e;cases e;exact (List.getElem?_eq_some_iff.1 h4).1
  obtain ⟨st1,g1,r1,G1,S1⟩:=loop20 (K:=K) hb0 hl l.length 0 st (.p .nils) [] (by omega) (by omega) (by simp) (Nat.le_refl _) R (.inl ⟨rfl,rfl⟩)
  rw [List.drop_zero,List.nil_append] at G1
  obtain ⟨n0,hn0⟩:=Run.all r1
  have z0:((0:Nat):Int)=0:=rfl
  simp only [env20,hI,z0] at hn0
  refine ⟨st1,g1,n0 + 60,fun n hn=>evHF_mono hn _ _ _ _ (evHF_in (n:=n0 + 59) hk (x:=h20) rfl rfl ?_),G1,S1⟩
  rcases R.sh with rfl | ⟨b,n,rfl⟩ <;> rcases G1.sh with rfl | ⟨c,k,rfl⟩ <;> simp (config:={ maxSteps:=4000000 }) [↓hs_pre,↓evP_call0',hs_eq,h20,hn0]
end Go.Ab
namespace Go.Ab
open Go
set_option linter.unusedVariables false
set_option linter.unusedSimpArgs false
set_option maxRecDepth 10000
set_option maxHeartbeats 4000000
variable {K:HCalls}
abbrev hB8 (l:List Int):HV:=.p (.sl l.length (l.flatMap (cint .u8)))
def env3 (wh:HV) (p9 ob n:Nat) (ah bh:HV) (tt:Int) (i k p21:Nat):HEnv:=[(3,wh),(9,.ptr p9 0),(12,.row ob 0 n 4),(15,ah),(16,bh),(18,hI tt),(19,hI i),(20,hI k),(21,.ptr p21 0)]
def env3j (wh:HV) (p9 ob n:Nat) (ah bh:HV) (tt:Int) (i k p21 j:Nat):HEnv:=env3 wh p9 ob n ah bh tt i k p21 ++ [(23,hI j)]
structure Old (st:HSt) (sp p9 ob:Nat) (As:List Area) (L:List r26_Object):Prop where
  b9:st[p9]? = some (.box [.ptr sp 0,hAs As,hL L])
  ob:st[ob]? = some (.row 4 L.length ((L.flatMap cr26_Object).map .p))
theorem cells4 {L:List r26_Object} {k:Nat} {o:r26_Object} (h:L[k]? = some o) :
    (((L.flatMap cr26_Object).map HV.p).drop (k * 4)).take 4=[hI o.At,hI o.Shape.Slots,hI o.Shape.Mask,.p (.sl o.Slots.length (o.Slots.flatMap (cint .i64)))]:=by
  have c2:((L.flatMap cr26_Object).drop (k * 4)).take 4=[.int .i64 o.At,.int .i64 o.Shape.Slots,.int .i64 o.Shape.Mask,.sl o.Slots.length (o.Slots.flatMap (cint .i64))]:=enl_drop_take szr26_Object L k o h
  rw [← List.map_drop,← List.map_take,c2];rfl
theorem dt_get {α:Type} {l:List α} {a n:Nat} {xs:List α} (h:(l.drop a).take n=xs) {j:Nat} (hj:j < n):l[a + j]? = xs[j]?:=by
  rw [← h,List.getElem?_take,if_pos hj,List.getElem?_drop]
theorem step3j (C:KE K) {st:HSt} {sp wb p9 ob p21:Nat} {ws:List Int} (S:SpaceAt st sp wb ws) (hb:ws.length < 1000000000) {As:List Area} {L:List r26_Object} (O:Old st sp p9 ob As L) (hl:L.length < 100000) (ways:List Int) {ah bh:HV} {base:Nat} {as' bs':List Int} (Ra:RowI base st ah as') (Rb:RowI base st bh bs') (tt:Int) (h0:0 ≤ tt) (i:Nat) {k:Nat} {o:r26_Object} (ho:L[k]? = some o) (hx:OkSh o.Shape)
    (e21:st[p21]? = some (.box [hI o.Shape.Slots,hI o.Shape.Mask])) {j:Nat} {v:Int} (hv:o.Slots[j]? = some v) (hj:(j:Int) < 17) (hm:ptB o.Shape j=false→ws[tt.toNat + 1 + j]? = some v) :
    Run C0 K TH h3l0 (env3j (hB8 ways) p9 ob L.length ah bh tt i k p21 j,st) .norm (env3j (hB8 ways) p9 ob L.length ah bh tt i k p21 (j + 1),st):=by
  have hjl:j < o.Slots.length:=(List.getElem?_eq_some_iff.1 hv).1
  have hjl':(j:Int) < o.Slots.length:=by omega
  have hkl:k < L.length:=(List.getElem?_eq_some_iff.1 ho).1
  have hkl':(k:Int) < L.length:=by omega
  have w:=wrN (i:=j) (by omega)
  have c1:=cells4 ho
  have c4:=dt_get c1 (j:=3) (by omega)
  have cl:((L.flatMap cr26_Object).map HV.p).length=L.length * 4:=by rw [List.length_map];exact cobj_len L
  have ci:=ints_at hv
  have b9:=O.b9
  have ob':=O.ob
  obtain ⟨cs,hcs⟩:∃ cs,(L.flatMap cr26_Object).map HV.p=cs:=⟨_,rfl⟩
  rw [hcs] at c1 c4 cl ob'
  simp only [List.getElem?_cons_succ,List.getElem?_cons_zero] at c4
  have k1:k * 4 + 4 ≤ L.length * 4:=by omega
  have k2:k * 4 + 3 < L.length * 4:=by omega
  have k3:k * 4 + 3 + 1 ≤ L.length * 4:=by omega
  have e23:=fun n=>k23 (n:=n) (st:=st) C.toKPu hx j
  by_cases hp:ptB o.Shape j=true
  · rw [hp] at e23
    rcases Ra.sh with rfl | ⟨b1,q1,rfl⟩ <;> rcases Rb.sh with rfl | ⟨b2,q2,rfl⟩
    all_goals
      refine Run.of 60 ?_
      simp (config:={ maxSteps:=4000000 }) [↓hs_pre,↓evP_call0',hs_eq,-getElem?_pos,List.getElem?_cons_zero,List.getElem?_cons_succ,get_lt,set_lt,get_set_ne,get_set_self,get_off,get_off0,set_off,set_off0,len_set,h3l0,env3j,env3,hjl,hjl',hkl,hkl',w,c4,cl,ci,b9,ob',k1,k2,k3,e23,e21]
  · rw [Bool.not_eq_true] at hp
    rw [hp] at e23
    have hw:=hm hp
    have hwl:=(List.getElem?_eq_some_iff.1 hw).1
    have e24:=fun n=>known_of (C.f24 S tt j (tt.toNat + 1 + j) (by omega) (by omega) (by omega) v hw) n
    rcases Ra.sh with rfl | ⟨b1,q1,rfl⟩ <;> rcases Rb.sh with rfl | ⟨b2,q2,rfl⟩
    all_goals
      refine Run.of 60 ?_
      simp (config:={ maxSteps:=4000000 }) [↓hs_pre,↓evP_call0',hs_eq,-getElem?_pos,List.getElem?_cons_zero,List.getElem?_cons_succ,get_lt,set_lt,get_set_ne,get_set_self,get_off,get_off0,set_off,set_off0,len_set,h3l0,env3j,env3,hjl,hjl',hkl,hkl',w,c4,cl,ci,b9,ob',k1,k2,k3,e23,e24,e21,eqPVL_ints]
theorem stop3j {st:HSt} {sp p9 ob p21:Nat} {As:List Area} {L:List r26_Object} (O:Old st sp p9 ob As L) (hl:L.length < 100000) (ways:List Int) {ah bh:HV} {base:Nat} {as' bs':List Int} (Ra:RowI base st ah as') (Rb:RowI base st bh bs') (tt:Int) (i:Nat) {k:Nat} {o:r26_Object} (ho:L[k]? = some o) {j:Nat} (hj:¬ j < o.Slots.length) :
    Run C0 K TH h3l0 (env3j (hB8 ways) p9 ob L.length ah bh tt i k p21 j,st) (.exit 2) (env3 (hB8 ways) p9 ob L.length ah bh tt i k p21,st):=by
  have hj':¬ (j:Int) < o.Slots.length:=by omega
  have hkl:k < L.length:=(List.getElem?_eq_some_iff.1 ho).1
  have hkl':(k:Int) < L.length:=by omega
  have c1:=cells4 ho
  have c4:=dt_get c1 (j:=3) (by omega)
  have cl:((L.flatMap cr26_Object).map HV.p).length=L.length * 4:=by rw [List.length_map];exact cobj_len L
  have ob':=O.ob
  obtain ⟨cs,hcs⟩:∃ cs,(L.flatMap cr26_Object).map HV.p=cs:=⟨_,rfl⟩
  rw [hcs] at c1 c4 cl ob'
  simp only [List.getElem?_cons_succ,List.getElem?_cons_zero] at c4
  have k1:k * 4 + 4 ≤ L.length * 4:=by omega
  have k2:k * 4 + 3 < L.length * 4:=by omega
  have k3:k * 4 + 3 + 1 ≤ L.length * 4:=by omega
  rcases Ra.sh with rfl | ⟨b1,q1,rfl⟩ <;> rcases Rb.sh with rfl | ⟨b2,q2,rfl⟩
  all_goals
    refine Run.of 60 ?_
    simp (config:={ maxSteps:=4000000 }) [↓hs_pre,↓evP_call0',hs_eq,-getElem?_pos,List.getElem?_cons_zero,List.getElem?_cons_succ,get_lt,set_lt,get_set_ne,get_set_self,get_off,get_off0,set_off,set_off0,len_set,h3l0,env3j,env3,hj,hj',hkl,hkl',c4,cl,ob',k1,k2,k3]
theorem loop3j (C:KE K) {st:HSt} {sp wb p9 ob p21:Nat} {ws:List Int} (S:SpaceAt st sp wb ws) (hb:ws.length < 1000000000) {As:List Area} {L:List r26_Object} (O:Old st sp p9 ob As L) (hl:L.length < 100000) (ways:List Int) {ah bh:HV} {base:Nat} {as' bs':List Int} (Ra:RowI base st ah as') (Rb:RowI base st bh bs') (tt:Int) (h0:0 ≤ tt) (i:Nat) {k:Nat} {o:r26_Object} (ho:L[k]? = some o) (hx:OkSh o.Shape) (hol:(o.Slots.length:Int)=o.Shape.Slots)
    (e21:st[p21]? = some (.box [hI o.Shape.Slots,hI o.Shape.Mask])) (hm:∀ (j:Nat) (v:Int),o.Slots[j]? = some v→ptB o.Shape j=false→ws[tt.toNat + 1 + j]? = some v):∀ (m j:Nat),o.Slots.length - j=m→j ≤ o.Slots.length →
    Run C0 K TH (.loop h3l0 [3,9,12,15,16,18,19,20,21,23]) (env3j (hB8 ways) p9 ob L.length ah bh tt i k p21 j,st) (.exit 2) (env3 (hB8 ways) p9 ob L.length ah bh tt i k p21,st)
  | 0,j,h1,h2=>Run.loopX (stop3j O hl ways Ra Rb tt i ho (by omega)) (by simp)
  | m + 1,j,h1,h2=>by
    have hjl:j < o.Slots.length:=by omega
    have:=hx.2.1
    refine Run.loopN (step3j C S hb O hl ways Ra Rb tt h0 i ho hx e21 (v:=o.Slots[j]) (by simp [hjl]) (by omega) (hm j _ (by simp [hjl]))) ?_
    have e:(env3j (hB8 ways) p9 ob L.length ah bh tt i k p21 (j + 1)).keep [3,9,12,15,16,18,19,20,21,23]=env3j (hB8 ways) p9 ob L.length ah bh tt i k p21 (j + 1):=by simp [env3j,env3,HEnv.keep]
    rw [e]
    exact loop3j C S hb O hl ways Ra Rb tt h0 i ho hx hol e21 hm m (j + 1) (by omega) (by omega)
end Go.Ab
namespace Go.Ab
open Go
set_option linter.unusedVariables false
set_option linter.unusedSimpArgs false
def tot:List Key→Int
  | []=>0
  | k :: r=>1 + k.2 + tot r
theorem chain_tot:∀ {ks:List Key} {lo hi:Int},Chain lo ks hi→hi=lo + tot ks
  | [],lo,hi,h=>by simp only [Chain] at h;simp [tot];omega
  | k :: r,lo,hi,h=>by
    have:=chain_tot h.2
    simp only [tot];omega
theorem tot_filter (p:Key→Bool):∀ ks:List Key,tot ks=tot (ks.filter p) + tot (ks.filter fun k=>!p k)
  | []=>rfl
  | k :: r=>by
    have:=tot_filter p r
    cases h:p k <;> simp [List.filter_cons,h,tot] <;> omega
def sumg (g:Int→Nat):List Int→Nat
  | []=>0
  | x :: r=>g x + sumg g r
theorem sumg_erase (g:Int→Nat) {x:Int}:∀ {ys:List Int},x ∈ ys→sumg g ys=g x + sumg g (ys.erase x)
  | y :: ys,h=>by
    by_cases e:y=x
    · subst e;rw [List.erase_cons_head];rfl
    · have h':=(List.mem_cons.1 h).resolve_left fun e'=>e e'.symm
      rw [List.erase_cons_tail (by simpa using e)]
      simp only [sumg]
      rw [sumg_erase g h'];omega
theorem nodup_sum (g:Int→Nat):∀ {xs ys:List Int},xs.Nodup→(∀ x ∈ xs,x ∈ ys)→sumg g xs ≤ sumg g ys
  | [],ys,_,_=>by simp [sumg]
  | x :: xs,ys,hn,hs=>by
    have hx:x ∈ ys:=hs x (by simp)
    rw [List.nodup_cons] at hn
    have h1:=nodup_sum g (ys:=ys.erase x) hn.2 fun y hy=>(List.mem_erase_of_ne (fun e=>hn.1 (by rw [← e];exact hy))).2 (hs y (by simp [hy]))
    rw [sumg_erase g hx]
    simp only [sumg];omega
variable {L:List r26_Object}
theorem endT_sum:∀ (F:List Int) (t:Int),endT L t F=t + sumg (fun p=>1 + slN L p) F
  | [],t=>by simp [endT,sumg]
  | p :: r,t=>by
    simp only [endT,sumg]
    rw [endT_sum r];omega
theorem sum_tot (hap:(L.map keyOf).Pairwise Apart):∀ l:List r26_Object,(∀ o ∈ l,o ∈ L)→(sumg (fun p=>1 + slN L p) (l.map r26_Object.At):Int)=tot (l.map keyOf)
  | [],_=>rfl
  | o :: l,h=>by
    have e:=slN_of (objAt_of hap (h o (by simp)))
    have:=sum_tot hap l fun x hx=>h x (by simp [hx])
    simp only [List.map_cons,sumg,tot,e]
    simp only [keyOf] at this ⊢
    omega
theorem room {ars:List Area} (hap:(L.map keyOf).Pairwise Apart) {F:List Int} (h:OutOk L ars F) (t:Int):endT L t F ≤ t + tot ((L.filter fun o=>inAny ars o.At).map keyOf):=by
  rw [endT_sum,← sum_tot hap (L.filter fun o=>inAny ars o.At) (fun o ho=>(List.mem_filter.1 ho).1)]
  have:=nodup_sum (fun p=>1 + slN L p) h.nodup (ys:=(L.filter fun o=>inAny ars o.At).map r26_Object.At) fun p hp=>by
    obtain ⟨h1,o,ho,rfl⟩:=h.mem p hp
    exact List.mem_map.2 ⟨o,List.mem_filter.2 ⟨ho,h1⟩,rfl⟩
  omega
theorem apart_symm {a b:Key} (h:Apart a b):Apart b a:=h.symm
theorem mvi0 {ws:List Int} {As:List Area} (H:Spc ws As L) (ars:List Area) (t0 hi:Int) (ht:0 < t0) (hw:hi ≤ ws.length) (hout:∀ k ∈ L.map keyOf,k.1 + 1 + k.2 ≤ t0 ∨ hi ≤ k.1):MVI L ars t0 hi ws [] (nf L ars):=by
  have hp:List.Perm ((nf L ars).map keyOf ++ (L.filter fun o=>inAny ars o.At).map keyOf) (L.map keyOf):=by
    rw [← List.map_append]
    refine List.Perm.map _ ?_
    have h1:=List.filter_append_perm (fun o:r26_Object=>inAny ars o.At) L
    exact List.Perm.trans List.perm_append_comm h1
  refine ⟨fun o ho=>H.ok o (List.mem_filter.1 ho).1,fun o ho _ _=>H.ok o ho,fun p h=>(by cases h),?_,fun k hk=>?_,OutOk.nil _ _,ht,hw⟩
  · exact (List.Perm.pairwise_iff (fun h=>apart_symm h) hp).2 H.lay.apart
  · have hk':=hp.mem_iff.1 hk
    exact ⟨H.lay.pos hk',hout k hk'⟩
theorem mem_cps:∀ {F:List Int} {t p:Int},p ∈ F→cpy L (mvd F (tos L t F) p) p ∈ cps L t F
  | q :: r,t,p,h=>by
    simp only [tos,mvd,cps]
    by_cases e:q=p
    · subst e;rw [if_pos rfl];simp
    · rw [if_neg e]
      exact List.mem_cons_of_mem _ (mem_cps ((List.mem_cons.1 h).resolve_left fun e'=>e e'.symm))
structure Mvd (ws:List Int) (L:List r26_Object) (F:List Int) (m:Int→Int):Prop where
  obj:∀ p ∈ F,∃ (k:Nat) (o:r26_Object),r26_Find L p=some (k:Int)∧L[k]? = some o∧0 < p∧0 < m p∧OkSh o.Shape∧(o.Slots.length:Int)=o.Shape.Slots∧ws[(m p).toNat]? = some (hdB o.Shape) ∧
    ∀ (j:Nat) (v:Int),o.Slots[j]? = some v→ws[(m p).toNat + 1 + j]? = some (if ptB o.Shape j=true then m v else v)∧(ptB o.Shape j=true→v=0 ∨ v ∈ F)
  zero:m 0=0
  inj:∀ p ∈ F,∀ q ∈ F,m p=m q→p=q
theorem mem_ptrsL' {x:Shape} {p:Int}:∀ {l:List Int} {i j:Nat},l[j]? = some p→ptB x (i + j:Nat)=true→p ∈ ptrsL x i l
  | v :: r,i,0,h,hp=>by
    simp at h;subst h
    simp only [ptrsL]
    rw [if_pos (by simpa using hp)];simp
  | v :: r,i,j + 1,h,hp=>by
    have:=mem_ptrsL' (x:=x) (p:=p) (l:=r) (i:=i + 1) (j:=j) (by simpa using h) (by rw [show i + 1 + j=i + (j + 1) by omega];exact hp)
    simp only [ptrsL]
    split
    · exact List.mem_cons_of_mem _ this
    · exact this
theorem mvd_of {ws ws':List Int} {As ars:List Area} (H:Spc ws As L) (hL:L.length < 100000) {t0 hi:Int} (ht:0 < t0) {F l:List Int} {NL:List r26_Object} (hall:∀ o ∈ L,inAny ars o.At=true) (hz:inAny ars 0=false) (hO:OutOk L ars F) (hc:∀ p ∈ F,∀ q ∈ ptrsAt L p,inAny ars q=true→q ∈ F)
    (M:MVI L ars t0 hi ws' F (NL ++ (cps L t0 F).map (trnO L t0 F))):Mvd ws' L F (mv L t0 F):=by
  have hap:=H.lay.apart
  refine ⟨fun p hp=>?_,mvd_not fun h=>?_,fun p hp q hq e=>mvd_inj hp hq e⟩
  · obtain ⟨h1,o,ho,rfl⟩:=hO.mem p hp
    have hoa:=objAt_of hap ho
    rcases Find_objAt hap (by omega:L.length < 140737488355328) o.At with ⟨k,o2,e1,e2,e3,_⟩ | ⟨_,e2⟩
    · rw [hoa] at e3;cases e3
      have hk:=M.ok (trnO L t0 F (cpy L (mv L t0 F o.At) o.At)) (List.mem_append_right _ (List.mem_map.2 ⟨_,mem_cps hp,rfl⟩))
      rw [cpy_of hoa] at hk
      have hpos:=mvd_pos (L:=L) ht hp
      refine ⟨k,o,e1,e2,H.lay.pos (k:=keyOf o) (List.mem_map.2 ⟨o,ho,rfl⟩),hpos,hk.sh,(H.ok o ho).len,hk.hd,fun j v hv=>⟨?_,fun hpt=>?_⟩⟩
      · refine hk.sl j _ ?_
        have hjl:=(List.getElem?_eq_some_iff.1 hv).1
        show (trn L t0 F o.Shape 0 o.Slots.length o.Slots)[j]? = _
        rw [trn_get,hv,Option.map_some,Nat.zero_add]
        by_cases hpt:ptB o.Shape j=true
        · rw [if_pos ⟨hjl,hpt⟩,if_pos hpt]
        · rw [if_neg (fun h=>hpt h.2),if_neg hpt]
      · rcases H.ptr o ho j v hv hpt with h0 | ⟨o',ho',rfl⟩
        · exact .inl h0
        · right
          refine hc o.At hp _ ?_ (hall o' ho')
          unfold ptrsAt
          rw [hoa]
          exact mem_ptrsL' hv (by rw [Nat.zero_add];exact hpt)
    · rw [hoa] at e2;cases e2
  · obtain ⟨h1,_⟩:=hO.mem 0 h
    rw [hz] at h1;cases h1
end Go.Ab
namespace Go.Ab
open Go
set_option linter.unusedVariables false
set_option linter.unusedSimpArgs false
set_option maxRecDepth 10000
set_option maxHeartbeats 4000000
variable {K:HCalls}
def hcl:HC→HC
  | .seq a _=>a
  | c=>c
def hcr:HC→HC
  | .seq _ b=>b
  | c=>c
def hcb:HC→HC
  | .block _ b _=>b
  | c=>c
def bd3:HC:=hcb (hcl (hcr h3l1))
def pc3:Nat→HC
  | 0=>bd3
  | n + 1=>hcr (pc3 n)
def env3o (wh:HV) (p9:Nat) (oh ah bh:HV) (at' tt:Int) (i:Nat):HEnv:=[(3,wh),(9,.ptr p9 0),(12,oh),(15,ah),(16,bh),(17,hI at'),(18,hI tt),(19,hI i)]
def env3k (wh:HV) (p9 ob n:Nat) (ah bh:HV) (tt:Int) (i k:Nat):HEnv:=[(3,wh),(9,.ptr p9 0),(12,.row ob 0 n 4),(15,ah),(16,bh),(18,hI tt),(19,hI i),(20,hI k)]
def env3c (wh:HV) (p9 ob n:Nat) (ah bh:HV) (tt:Int) (i k p21:Nat) (c:Int):HEnv:=env3 wh p9 ob n ah bh tt i k p21 ++ [(22,hI c)]
def env3m (wh:HV) (p9 ob n:Nat) (ah bh:HV) (tt:Int) (i k p21:Nat) (jj:Nat):HEnv:=env3 wh p9 ob n ah bh tt i k p21 ++ [(24,hI jj)]
def env3n (wh:HV) (p9 ob n:Nat) (ah bh:HV) (tt:Int) (i k:Nat) (jj:Nat):HEnv:=env3k wh p9 ob n ah bh tt i k ++ [(24,hI jj)]
theorem Same.mono {m n:Nat} {st st':HSt} (h:Same n st st') (hm:m ≤ n):Same m st st':=⟨h.len,fun i hi=>h.get i (by omega)⟩
theorem RowI.two {base:Nat} {st:HSt} {h:HV} {xs:List Int} (R:RowI base st h xs):(xs=[]∧h = .p .nils) ∨ (xs ≠ [] ∧ ∃ b n,h = .row b 0 n 1):=by
  rcases R with h | ⟨b,h1,_,h2,_⟩
  · exact .inl h
  · exact .inr ⟨h1,b,_,h2⟩
theorem part1 (B:KPu K) (hk:∀ ws st,K 20 ws st = .none) {st:HSt} (wh oh:HV) (p9:Nat) {ah bh:HV} {b0 b1:Nat} {xs ys:List Int} (Ra:RowI b0 st ah xs) (Rb:RowI b1 st bh ys) (hb1:∀ b,bh = .row b 0 ys.length 1→b < st.length) (hl:xs.length=ys.length) (hl':xs.length < 40000) {at' tt:Int} (h0:(at' = 0∧tt=0) ∨ ((at' == 0)=false∧(tt == 0)=false)) (hh:xs.contains at' = ys.contains tt) (i:Nat) :
    ∃ st2,Run C0 K TH (hcl (pc3 0)) (env3o wh p9 oh ah bh at' tt i,st) .norm (env3o wh p9 oh ah bh at' tt i,st2)∧Same st.length st st2:=by
  obtain ⟨st1,g1,n1,e1,R1,S1⟩:=e20 hk Ra hl'
  have Rb1:RowI b1 st1 bh ys:=Rb.same S1.get hb1
  obtain ⟨st2,g2,n2,e2,R2,S2⟩:=e20 hk Rb1 (by omega)
  have f1:evHF C0 K TH (n1 + n2 + 60) 20 [ah] st=some (g1,st1):=e1 _ (by omega)
  have f2:evHF C0 K TH (n1 + n2 + 60) 20 [bh] st1=some (g2,st2):=e2 _ (by omega)
  have f3:evHF C0 K TH (n1 + n2 + 60) 19 [g1,.p (.int .i64 at')] st1=some (.p (.bool (xs.contains at')),st1):=k19 B R1 (by omega) at' (n1 + n2 + 59)
  have f4:evHF C0 K TH (n1 + n2 + 60) 19 [g2,.p (.int .i64 tt)] st2=some (.p (.bool (xs.contains at')),st2):=by rw [hh];exact k19 B R2 (by omega) tt (n1 + n2 + 59)
  generalize xs.contains at' = q at f3 f4
  refine ⟨st2,?_,S1.trans (S2.mono S1.len)⟩
  rcases Ra.two with ⟨rfl,rfl⟩ | ⟨ha,b3,m3,rfl⟩
  · have hy : ys=[]:=List.eq_nil_of_length_eq_zero hl.symm
    subst hy
    rcases Rb.two with ⟨_,rfl⟩ | ⟨h,_⟩
    · rcases R1.two with ⟨_,rfl⟩ | ⟨h,_⟩
      · rcases R2.two with ⟨_,rfl⟩ | ⟨h,_⟩
        · rcases h0 with ⟨rfl,rfl⟩ | ⟨h1,h2⟩
          all_goals
            refine Run.of (n1 + n2 + 60) ?_
            simp (config:={ maxSteps:=4000000 }) [↓hs_pre,↓evP_call0',hs_eq,pc3,bd3,hcl,hcr,hcb,h3l1,env3o,f1,f2,f3,f4, *]
        · exact absurd rfl h
      · exact absurd rfl h
    · exact absurd rfl h
  · have hy:ys ≠ []:=fun e=>ha (List.eq_nil_of_length_eq_zero (by rw [hl,e];rfl))
    rcases Rb.two with ⟨h,_⟩ | ⟨_,b4,m4,rfl⟩
    · exact absurd h hy
    rcases R1.two with ⟨h,_⟩ | ⟨_,b5,m5,rfl⟩
    · exact absurd h ha
    rcases R2.two with ⟨h,_⟩ | ⟨_,b6,m6,rfl⟩
    · exact absurd h hy
    rcases h0 with ⟨rfl,rfl⟩ | ⟨h1,h2⟩
    all_goals
      refine Run.of (n1 + n2 + 60) ?_
      simp (config:={ maxSteps:=4000000 }) [↓hs_pre,↓evP_call0',hs_eq,pc3,bd3,hcl,hcr,hcb,h3l1,env3o,f1,f2,f3,f4, *]
theorem part2X {st:HSt} (wh oh ah bh:HV) (p9:Nat) (tt:Int) (i:Nat):Run C0 K TH (hcl (pc3 1)) (env3o wh p9 oh ah bh 0 tt i,st) (.exit 0) ([],st):=by
  refine Run.of 60 ?_
  simp (config:={ maxSteps:=4000000 }) [↓hs_pre,↓evP_call0',hs_eq,pc3,bd3,hcl,hcr,hcb,h3l1,env3o]
theorem part2 {st:HSt} (wh oh ah bh:HV) (p9:Nat) {at':Int} (h:(at' == 0)=false) (tt:Int) (i:Nat):Run C0 K TH (hcl (pc3 1)) (env3o wh p9 oh ah bh at' tt i,st) .norm (env3o wh p9 oh ah bh at' tt i,st):=by
  refine Run.of 60 ?_
  simp (config:={ maxSteps:=4000000 }) [↓hs_pre,↓evP_call0',hs_eq,pc3,bd3,hcl,hcr,hcb,h3l1,env3o,h]
end Go.Ab
namespace Go.Ab
open Go
set_option linter.unusedVariables false
set_option linter.unusedSimpArgs false
set_option maxRecDepth 10000
set_option maxHeartbeats 4000000
variable {K:HCalls}
structure Two (base:Nat) (st:HSt) (ah bh:HV) (xs ys:List Int):Prop where
  A:RowI base st ah xs
  B:RowI base st bh ys
  len:xs.length=ys.length
  ne:∀ b n c m,ah = .row b 0 n 1→bh = .row c 0 m 1→b ≠ c
theorem part3 {st:HSt} {base:Nat} (hbase:base ≤ st.length) (wh oh:HV) (p9:Nat) {ah bh:HV} {xs ys:List Int} (H:Two base st ah bh xs ys) (hl':xs.length < 40000) (at' tt:Int) (i:Nat) :
    ∃ st1 ah1 bh1,Run C0 K TH (hcl (pc3 2)) (env3o wh p9 oh ah bh at' tt i,st) .norm (env3o wh p9 oh ah1 bh1 at' tt i,st1)∧Two base st1 ah1 bh1 (xs ++ [at']) (ys ++ [tt])∧Same base st st1:=by
  obtain ⟨Ra,Rb,hl,hne⟩:=H
  rcases Ra with ⟨rfl,rfl⟩ | ⟨c,hcne,hc,rfl,hct⟩
  · have hy:ys=[]:=List.eq_nil_of_length_eq_zero hl.symm
    subst hy
    rcases Rb.two with ⟨_,rfl⟩ | ⟨h,_⟩
    · refine ⟨st ++ [.row 1 1 [hI at'],.row 1 1 [hI at'],.row 1 1 [hI tt],.row 1 1 [hI tt]],.row (st.length + 1) 0 1 1,.row (st.length + 3) 0 1 1,Run.of 60 ?_,⟨.inr ⟨st.length + 1,by simp,by omega,rfl,by rw [getElem?_len];rfl⟩,.inr ⟨st.length + 3,by simp,by omega,rfl,by rw [getElem?_len];rfl⟩,rfl,fun b n c m h1 h2=>by cases h1;cases h2;omega⟩,Same.app hbase _⟩
      simp (config:={ maxSteps:=4000000 }) [↓hs_pre,↓evP_call0',hs_eq,-getElem?_pos,List.getElem?_cons_zero,List.getElem?_cons_succ,get_lt,set_lt,get_set_ne,get_set_self,get_off,get_off0,set_off,set_off0,len_set,pc3,bd3,hcl,hcr,hcb,h3l1,env3o]
    · exact absurd rfl h
  · have hy:ys ≠ []:=fun e=>hcne (List.eq_nil_of_length_eq_zero (by rw [hl,e];rfl))
    rcases Rb with ⟨h,_⟩ | ⟨d,_,hd,rfl,hdt⟩
    · exact absurd h hy
    have hcd:c ≠ d:=hne _ _ _ _ rfl rfl
    have hcl:c < st.length:=(List.getElem?_eq_some_iff.1 hct).1
    have hdl:d < st.length:=(List.getElem?_eq_some_iff.1 hdt).1
    have hx0:0 < xs.length:=List.length_pos_iff.2 hcne
    obtain ⟨m,hm⟩:∃ m,xs.length=m:=⟨_,rfl⟩
    have hm':ys.length=m:=by omega
    have f4:∀ g:HSt,(st ++ g)[c]? = some (.row 1 m (xs.map fun n=>.p (.int .i64 n))):=fun g=>by rw [List.getElem?_append_left hcl,hct,hm]
    have d1:(m + 1) * 8 ≤ 1099511627776:=by omega
    have d2:m + 1 ≤ 1099511627776:=by omega
    have d3:(xs.map fun n=>HV.p (.int .i64 n)).take m=xs.map fun n=>HV.p (.int .i64 n):=List.take_of_length_le (by simp;omega)
    have d4:(ys.map fun n=>HV.p (.int .i64 n)).take m=ys.map fun n=>HV.p (.int .i64 n):=List.take_of_length_le (by simp;omega)
    have f5:∀ (g:HSt) (x:HB),(st ++ g).set c x=st.set c x ++ g:=fun g x=>List.set_append_left _ _ hcl
    have f6:∀ (g:HSt) (x:HB),(st.set c x ++ g)[d]? = some (.row 1 m (ys.map fun n=>.p (.int .i64 n))):=fun g x=>by rw [List.getElem?_append_left (by simpa using hdl),List.getElem?_set_ne hcd,hdt,hm']
    have f7:∀ (g:HSt) (x y:HB),(st.set c x ++ g).set d y=(st.set c x).set d y ++ g:=fun g x y=>List.set_append_left _ _ (by simpa using hdl)
    have f8:∀ (g:HSt) (x:HB) (j:Nat),(st.set c x ++ g)[st.length + j]? = g[j]?:=fun g x j=>by rw [List.getElem?_append_right (by simp)];simp
    have f9:∀ (g:HSt) (x:HB) (j:Nat) (y:HB),(st.set c x ++ g).set (st.length + j) y=st.set c x ++ g.set j y:=fun g x j y=>by
      rw [List.set_append_right _ _ (by simp)];simp
    simp only [hm,hm']
    let g:HSt:=[.row 1 1 [hI at'],.row 1 (m + 1) (xs.map (fun n=>HV.p (.int .i64 n)) ++ [hI at']),.row 1 1 [hI tt],.row 1 (m + 1) (ys.map (fun n=>HV.p (.int .i64 n)) ++ [hI tt])]
    have hg:∀ j,((st.set c .dead).set d .dead ++ g)[st.length + j]? = g[j]?:=fun j=>by
      rw [List.getElem?_append_right (by simp)];simp
    refine ⟨(st.set c .dead).set d .dead ++ g,.row (st.length + 1) 0 (m + 1) 1,.row (st.length + 3) 0 (m + 1) 1,Run.of 60 ?_,⟨.inr ⟨st.length + 1,by simp,by omega,by simp [hm],by rw [hg];simp [g,hm]⟩,.inr ⟨st.length + 3,by simp,by omega,by simp [hm'],by rw [hg];simp [g,hm']⟩,by simp [hm,hm'],fun b n c m h1 h2=>by cases h1;cases h2;omega⟩,⟨by simp,fun i hi=>?_⟩⟩
    · simp (config:={ maxSteps:=4000000 }) [↓hs_pre,↓evP_call0',hs_eq,-getElem?_pos,List.getElem?_cons_zero,List.getElem?_cons_succ,get_lt,set_lt,get_set_ne,get_set_self,get_off,get_off0,set_off,set_off0,len_set,pc3,bd3,Go.Ab.hcl,hcr,hcb,h3l1,env3o,f4,f5,f6,f7,f8,f9,d1,d2,d3,d4,hm,hm',g]
    · rw [List.getElem?_append_left (by simp;omega),List.getElem?_set_ne (by omega),List.getElem?_set_ne (by omega)]
end Go.Ab
namespace Go.Ab
open Go
set_option linter.unusedVariables false
set_option linter.unusedSimpArgs false
set_option maxRecDepth 10000
set_option maxHeartbeats 4000000
variable {K:HCalls}
theorem k21r (B:KPu K) {st:HSt} {ob:Nat} {L:List r26_Object} (h:st[ob]? = some (.row 4 L.length ((L.flatMap cr26_Object).map .p))) {p r:Int} (hf:r26_Find L p=some r) (n:Nat):evHF C0 K TH (n + 1) 21 [.row ob 0 L.length 4,hI p] st=some (hI r,st):=by
  refine B.lent (f:=21) rfl (vs:=[.sl L.length (L.flatMap cr26_Object),.int .i64 p]) ?_ rfl (r26_Find_ok L p r hf) rfl n
  simp only [rdL,rdH_row h (cobj_len L) (cobj_free L)]
  rfl
theorem part4 (B:KPu K) {st:HSt} {sp p9 ob:Nat} {As:List Area} {L:List r26_Object} (O:Old st sp p9 ob As L) (wh ah bh:HV) {at':Int} {k:Nat} (hf:r26_Find L at' = some (k:Int)) (tt:Int) (i:Nat) :
    Run C0 K TH (hcl (pc3 3)) (env3o wh p9 (.row ob 0 L.length 4) ah bh at' tt i,st) .norm (env3k wh p9 ob L.length ah bh tt i k,st):=by
  have e:=fun n=>k21r B O.ob hf n
  refine Run.of 60 ?_
  simp (config:={ maxSteps:=4000000 }) [↓hs_pre,↓evP_call0',hs_eq,-getElem?_pos,List.getElem?_cons_zero,List.getElem?_cons_succ,get_lt,set_lt,get_set_ne,get_set_self,get_off,get_off0,set_off,set_off0,len_set,pc3,bd3,hcl,hcr,hcb,h3l1,env3o,env3k,e]
theorem part5 {st:HSt} (wh ah bh:HV) (p9 ob n:Nat) (tt:Int) (i k:Nat) :
    Run C0 K TH (hcl (pc3 4)) (env3k wh p9 ob n ah bh tt i k,st) .norm (env3k wh p9 ob n ah bh tt i k,st):=by
  have h:¬ (k:Int) < 0:=by omega
  refine Run.of 60 ?_
  simp (config:={ maxSteps:=4000000 }) [↓hs_pre,↓evP_call0',hs_eq,-getElem?_pos,List.getElem?_cons_zero,List.getElem?_cons_succ,get_lt,set_lt,get_set_ne,get_set_self,get_off,get_off0,set_off,set_off0,len_set,pc3,bd3,hcl,hcr,hcb,h3l1,env3k,h]
theorem part6 (C:KE K) {st:HSt} {sp wb p9 ob:Nat} {ws:List Int} (S:SpaceAt st sp wb ws) {As:List Area} {L:List r26_Object} (O:Old st sp p9 ob As L) (wh ah bh:HV) (n:Nat) {t:Nat} (h0:0 < t) {x:Shape} (hx:OkSh x) (hv:ws[t]? = some (hdB x)) (i k:Nat) :
    Run C0 K TH (hcl (pc3 5)) (env3k wh p9 ob n ah bh t i k,st) .norm (env3c wh p9 ob n ah bh t i k (st.length + 1) 0,st ++ [.box [hI x.Slots,hI x.Mask],.box [hI x.Slots,hI x.Mask]]):=by
  have e:=fun n=>known_of (C.f22 S t h0 hx hv) n
  have b9:=O.b9
  refine Run.of 60 ?_
  simp (config:={ maxSteps:=4000000 }) [↓hs_pre,↓evP_call0',hs_eq,-getElem?_pos,List.getElem?_cons_zero,List.getElem?_cons_succ,get_lt,set_lt,get_set_ne,get_set_self,get_off,get_off0,set_off,set_off0,len_set,pc3,bd3,hcl,hcr,hcb,h3l1,env3k,env3c,env3,e,b9]
theorem part7 {st:HSt} {sp p9 ob p21:Nat} {As:List Area} {L:List r26_Object} (O:Old st sp p9 ob As L) (wh:List Int) {ah bh:HV} {base:Nat} {xs ys:List Int} (T2:Two base st ah bh xs ys) (tt:Int) (i:Nat) {k:Nat} {o:r26_Object} (ho:L[k]? = some o)
    (e21:st[p21]? = some (.box [hI o.Shape.Slots,hI o.Shape.Mask])) :
    Run C0 K TH (hcl (pc3 6)) (env3c (hB8 wh) p9 ob L.length ah bh tt i k p21 0,st) .norm (env3 (hB8 wh) p9 ob L.length ah bh tt i k p21,st):=by
  have hkl:k < L.length:=(List.getElem?_eq_some_iff.1 ho).1
  have hkl':(k:Int) < L.length:=by omega
  have c1:=cells4 ho
  have c4:=dt_get c1 (j:=1) (by omega)
  have c5:=dt_get c1 (j:=2) (by omega)
  have cl:((L.flatMap cr26_Object).map HV.p).length=L.length * 4:=by rw [List.length_map];exact cobj_len L
  have ob':=O.ob
  obtain ⟨cs,hcs⟩:∃ cs,(L.flatMap cr26_Object).map HV.p=cs:=⟨_,rfl⟩
  rw [hcs] at c1 c4 c5 cl ob'
  simp only [List.getElem?_cons_succ,List.getElem?_cons_zero] at c4 c5
  have k1:k * 4 + 4 ≤ L.length * 4:=by omega
  have k2:k * 4 + 1 < L.length * 4:=by omega
  have k3:k * 4 + 1 + 2 ≤ L.length * 4:=by omega
  have c6:(cs.drop (k * 4 + 1)).take 2=[hI o.Shape.Slots,hI o.Shape.Mask]:=by
    have:=congrArg (fun l=>(l.drop 1).take 2) c1
    simpa [List.drop_take,List.drop_drop,List.take_take] using this
  rcases T2.A.sh with rfl | ⟨b1,q1,rfl⟩ <;> rcases T2.B.sh with rfl | ⟨b2,q2,rfl⟩
  all_goals
    refine Run.of 60 ?_
    simp (config:={ maxSteps:=4000000 }) [↓hs_pre,↓evP_call0',hs_eq,-getElem?_pos,List.getElem?_cons_zero,List.getElem?_cons_succ,get_lt,set_lt,get_set_ne,get_set_self,get_off,get_off0,set_off,set_off0,len_set,pc3,bd3,hcl,hcr,hcb,h3l1,env3c,env3,hkl,hkl',c4,c5,c6,cl,ob',k1,k2,k3,e21]
theorem part8 (C:KE K) {st:HSt} {sp wb p9 ob p21:Nat} {ws:List Int} (S:SpaceAt st sp wb ws) (hb:ws.length < 1000000000) {As:List Area} {L:List r26_Object} (O:Old st sp p9 ob As L) (hl:L.length < 100000) (ways:List Int) {ah bh:HV} {base:Nat} {xs ys:List Int} (T2:Two base st ah bh xs ys) (tt:Int) (h0:0 ≤ tt) (i:Nat) {k:Nat} {o:r26_Object} (ho:L[k]? = some o) (hx:OkSh o.Shape) (hol:(o.Slots.length:Int)=o.Shape.Slots)
    (e21:st[p21]? = some (.box [hI o.Shape.Slots,hI o.Shape.Mask])) (hm:∀ (j:Nat) (v:Int),o.Slots[j]? = some v→ptB o.Shape j=false→ws[tt.toNat + 1 + j]? = some v) :
    Run C0 K TH (hcl (pc3 7)) (env3 (hB8 ways) p9 ob L.length ah bh tt i k p21,st) .norm (env3 (hB8 ways) p9 ob L.length ah bh tt i k p21,st):=by
  have r:=loop3j C S hb O hl ways T2.A T2.B tt h0 i ho hx hol e21 hm _ 0 rfl (by omega)
  obtain ⟨n0,hn0⟩:=Run.all r
  have z0:((0:Nat):Int)=0:=rfl
  simp only [env3j,env3,hI,z0,List.cons_append,List.nil_append] at hn0
  refine Run.of (n0 + 60) ?_
  simp (config:={ maxSteps:=4000000 }) [↓hs_pre,↓evP_call0',hs_eq,-getElem?_pos,List.getElem?_cons_zero,List.getElem?_cons_succ,get_lt,set_lt,get_set_ne,get_set_self,get_off,get_off0,set_off,set_off0,len_set,pc3,bd3,hcl,hcr,hcb,h3l1,env3,hn0]
end Go.Ab
namespace Go.Ab
open Go
set_option linter.unusedVariables false
set_option linter.unusedSimpArgs false
set_option maxRecDepth 10000
set_option maxHeartbeats 4000000
variable {K:HCalls}
theorem part9X {st:HSt} (wh:List Int) (ah bh:HV) (p9 ob n:Nat) (tt:Int) {i:Nat} (k:Nat) {p21:Nat} {s m:Int} (e21:st[p21]? = some (.box [hI s,hI m])) (h:i=wh.length ∨ (i ≠ wh.length∧s=0)) :
    Run C0 K TH (hcl (pc3 8)) (env3 (hB8 wh) p9 ob n ah bh tt i k p21,st) (.exit 0) ([],st):=by
  rcases h with rfl | ⟨h,rfl⟩
  · refine Run.of 60 ?_
    simp (config:={ maxSteps:=4000000 }) [↓hs_pre,↓evP_call0',hs_eq,-getElem?_pos,List.getElem?_cons_zero,List.getElem?_cons_succ,get_lt,set_lt,get_set_ne,get_set_self,get_off,get_off0,set_off,set_off0,len_set,pc3,bd3,hcl,hcr,hcb,h3l1,env3,e21]
  · have h':((i:Int) == (wh.length:Int))=false:=by simp;omega
    refine Run.of 60 ?_
    simp (config:={ maxSteps:=4000000 }) [↓hs_pre,↓evP_call0',hs_eq,-getElem?_pos,List.getElem?_cons_zero,List.getElem?_cons_succ,get_lt,set_lt,get_set_ne,get_set_self,get_off,get_off0,set_off,set_off0,len_set,pc3,bd3,hcl,hcr,hcb,h3l1,env3,e21,h,h']
theorem part9 {st:HSt} (wh:List Int) (ah bh:HV) (p9 ob n:Nat) (tt:Int) {i:Nat} (k:Nat) {p21:Nat} {s m:Int} (e21:st[p21]? = some (.box [hI s,hI m])) (h:i ≠ wh.length) (hs:s ≠ 0) :
    Run C0 K TH (hcl (pc3 8)) (env3 (hB8 wh) p9 ob n ah bh tt i k p21,st) .norm (env3 (hB8 wh) p9 ob n ah bh tt i k p21,st):=by
  have h':((i:Int) == (wh.length:Int))=false:=by simp;omega
  have hs':(s == 0)=false:=by simpa using hs
  refine Run.of 60 ?_
  simp (config:={ maxSteps:=4000000 }) [↓hs_pre,↓evP_call0',hs_eq,-getElem?_pos,List.getElem?_cons_zero,List.getElem?_cons_succ,get_lt,set_lt,get_set_ne,get_set_self,get_off,get_off0,set_off,set_off0,len_set,pc3,bd3,hcl,hcr,hcb,h3l1,env3,e21,h,h',hs,hs']
theorem u8_at {l:List Int} {k:Nat} {v:Int} (h:l[k]? = some v):((l.flatMap (cint .u8)).drop k).take 1=[.int .u8 v]:=by
  have:=enl_drop_take (sz_int .u8) l k v h
  simpa [cint] using this
theorem part10 {st:HSt} (wh:List Int) (hwl:wh.length < 1000) {base:Nat} {ah bh:HV} {xs ys:List Int} (T2:Two base st ah bh xs ys) (p9 ob n:Nat) (tt:Int) {i:Nat} (k:Nat) {p21:Nat} {s m:Int} (e21:st[p21]? = some (.box [hI s,hI m])) {v:Int} (hv:wh[i]? = some v) (hvr:0 ≤ v∧v < 256) (hs:0 < s∧s ≤ 16) {jj:Nat} (hj:Int.tmod v s=(jj:Int)) :
    Run C0 K TH (hcl (pc3 9)) (env3 (hB8 wh) p9 ob n ah bh tt i k p21,st) .norm (env3m (hB8 wh) p9 ob n ah bh tt i k p21 jj,st):=by
  have hil:i < wh.length:=(List.getElem?_eq_some_iff.1 hv).1
  have hil':(i:Int) < wh.length:=by omega
  have c1:=u8_at hv
  have w1:IntKind.wrap .i64 v=v:=wr64 (by omega) (by omega)
  have hjr:(jj:Int) < 16:=by rw [← hj];have:=Int.tmod_lt_of_pos v hs.1;omega
  have w2:IntKind.wrap .i64 (jj:Int)=jj:=wr64 (by omega) (by omega)
  have hs0:s ≠ 0:=by omega
  have hs':(s == 0)=false:=by simpa using hs0
  rcases T2.A.sh with rfl | ⟨b1,q1,rfl⟩ <;> rcases T2.B.sh with rfl | ⟨b2,q2,rfl⟩
  all_goals
    refine Run.of 60 ?_
    simp (config:={ maxSteps:=4000000 }) [↓hs_pre,↓evP_call0',hs_eq,-getElem?_pos,List.getElem?_cons_zero,List.getElem?_cons_succ,get_lt,set_lt,get_set_ne,get_set_self,get_off,get_off0,set_off,set_off0,len_set,pc3,bd3,hcl,hcr,hcb,h3l1,env3,env3m,e21,hil,hil',c1,w1,w2,hj,hs0,hs']
theorem part11X (B:KPu K) {st:HSt} (wh:List Int) {base:Nat} {ah bh:HV} {xs ys:List Int} (T2:Two base st ah bh xs ys) (p9 ob n:Nat) (tt:Int) (i k:Nat) {p21:Nat} {x:Shape} (hx:OkSh x) (e21:st[p21]? = some (.box [hI x.Slots,hI x.Mask])) {jj:Nat} (hp:ptB x jj=false) :
    Run C0 K TH (hcl (pc3 10)) (env3m (hB8 wh) p9 ob n ah bh tt i k p21 jj,st) (.exit 0) ([],st):=by
  have e23:=fun n=>k23 (n:=n) (st:=st) B hx jj
  rw [hp] at e23
  rcases T2.A.sh with rfl | ⟨b1,q1,rfl⟩ <;> rcases T2.B.sh with rfl | ⟨b2,q2,rfl⟩
  all_goals
    refine Run.of 60 ?_
    simp (config:={ maxSteps:=4000000 }) [↓hs_pre,↓evP_call0',hs_eq,-getElem?_pos,List.getElem?_cons_zero,List.getElem?_cons_succ,get_lt,set_lt,get_set_ne,get_set_self,get_off,get_off0,set_off,set_off0,len_set,pc3,bd3,hcl,hcr,hcb,h3l1,env3,env3m,e21,e23]
theorem part11 (B:KPu K) {st:HSt} (wh:List Int) {base:Nat} {ah bh:HV} {xs ys:List Int} (T2:Two base st ah bh xs ys) (p9 ob n:Nat) (tt:Int) (i k:Nat) {p21:Nat} {x:Shape} (hx:OkSh x) (e21:st[p21]? = some (.box [hI x.Slots,hI x.Mask])) {jj:Nat} (hp:ptB x jj=true) :
    Run C0 K TH (hcl (pc3 10)) (env3m (hB8 wh) p9 ob n ah bh tt i k p21 jj,st) .norm (env3n (hB8 wh) p9 ob n ah bh tt i k jj,st):=by
  have e23:=fun n=>k23 (n:=n) (st:=st) B hx jj
  rw [hp] at e23
  rcases T2.A.sh with rfl | ⟨b1,q1,rfl⟩ <;> rcases T2.B.sh with rfl | ⟨b2,q2,rfl⟩
  all_goals
    refine Run.of 60 ?_
    simp (config:={ maxSteps:=4000000 }) [↓hs_pre,↓evP_call0',hs_eq,-getElem?_pos,List.getElem?_cons_zero,List.getElem?_cons_succ,get_lt,set_lt,get_set_ne,get_set_self,get_off,get_off0,set_off,set_off0,len_set,pc3,bd3,hcl,hcr,hcb,h3l1,env3,env3m,env3n,env3k,e21,e23]
theorem part12 (C:KE K) {st:HSt} {sp wb p9 ob:Nat} {ws:List Int} (S:SpaceAt st sp wb ws) (hb:ws.length < 1000000000) {As:List Area} {L:List r26_Object} (O:Old st sp p9 ob As L) (hl:L.length < 100000) (wh:List Int) {base:Nat} {ah bh:HV} {xs ys:List Int} (T2:Two base st ah bh xs ys) (tt:Int) (h0:0 ≤ tt) (i:Nat) {k:Nat} {o:r26_Object} (ho:L[k]? = some o) {jj:Nat} (hjj:jj < 17) {v w:Int} (hv:o.Slots[jj]? = some v) (hw:ws[tt.toNat + 1 + jj]? = some w) :
    Run C0 K TH (pc3 11) (env3n (hB8 wh) p9 ob L.length ah bh tt i k jj,st) .norm (env3o (hB8 wh) p9 (.row ob 0 L.length 4) ah bh v w i,st):=by
  have hjl:jj < o.Slots.length:=(List.getElem?_eq_some_iff.1 hv).1
  have hjl':(jj:Int) < o.Slots.length:=by omega
  have hkl:k < L.length:=(List.getElem?_eq_some_iff.1 ho).1
  have hkl':(k:Int) < L.length:=by omega
  have hwl:=(List.getElem?_eq_some_iff.1 hw).1
  have c1:=cells4 ho
  have c4:=dt_get c1 (j:=3) (by omega)
  have cl:((L.flatMap cr26_Object).map HV.p).length=L.length * 4:=by rw [List.length_map];exact cobj_len L
  have ci:=ints_at hv
  have b9:=O.b9
  have ob':=O.ob
  obtain ⟨cs,hcs⟩:∃ cs,(L.flatMap cr26_Object).map HV.p=cs:=⟨_,rfl⟩
  rw [hcs] at c1 c4 cl ob'
  simp only [List.getElem?_cons_succ,List.getElem?_cons_zero] at c4
  have k1:k * 4 + 4 ≤ L.length * 4:=by omega
  have k2:k * 4 + 3 < L.length * 4:=by omega
  have k3:k * 4 + 3 + 1 ≤ L.length * 4:=by omega
  have e24:=fun n=>known_of (C.f24 S tt jj (tt.toNat + 1 + jj) (by omega) (by omega) (by omega) w hw) n
  have hq:=eqPVL_ints o.Slots
  rcases T2.A.sh with rfl | ⟨b1,q1,rfl⟩ <;> rcases T2.B.sh with rfl | ⟨b2,q2,rfl⟩
  all_goals
    refine Run.of 60 ?_
    simp (config:={ maxSteps:=4000000 }) [↓hs_pre,↓evP_call0',hs_eq,-getElem?_pos,List.getElem?_cons_zero,List.getElem?_cons_succ,get_lt,set_lt,get_set_ne,get_set_self,get_off,get_off0,set_off,set_off0,len_set,pc3,bd3,hcl,hcr,hcb,h3l1,env3n,env3k,env3o,hjl,hjl',hkl,hkl',c4,cl,ci,b9,ob',k1,k2,k3,e24,hq]
end Go.Ab
namespace Go.Ab
open Go
set_option linter.unusedVariables false
set_option linter.unusedSimpArgs false
set_option maxRecDepth 10000
set_option maxHeartbeats 4000000
variable {K:HCalls}
theorem head3 {st:HSt} (wh:List Int) (oh ah bh:HV) (p9:Nat) (at' tt:Int) {i:Nat} (hi:i ≤ wh.length):Run C0 K TH (hcl h3l1) (env3o (hB8 wh) p9 oh ah bh at' tt i,st) .norm (env3o (hB8 wh) p9 oh ah bh at' tt i,st):=by
  have h:(i:Int) ≤ wh.length:=by omega
  refine Run.of 60 ?_
  simp (config:={ maxSteps:=4000000 }) [↓hs_pre,↓evP_call0',hs_eq,-getElem?_pos,List.getElem?_cons_zero,List.getElem?_cons_succ,get_lt,set_lt,get_set_ne,get_set_self,get_off,get_off0,set_off,set_off0,len_set,hcl,hcr,hcb,h3l1,env3o,h,hi]
theorem tail3 {st:HSt} (wh oh ah bh:HV) (p9:Nat) (at' tt:Int) {i:Nat} (hi:i < 1000):Run C0 K TH (hcr (hcr h3l1)) (env3o wh p9 oh ah bh at' tt i,st) .norm (env3o wh p9 oh ah bh at' tt (i + 1),st):=by
  have w:=wrN (i:=i) (by omega)
  refine Run.of 60 ?_
  simp (config:={ maxSteps:=4000000 }) [↓hs_pre,↓evP_call0',hs_eq,-getElem?_pos,List.getElem?_cons_zero,List.getElem?_cons_succ,get_lt,set_lt,get_set_ne,get_set_self,get_off,get_off0,set_off,set_off0,len_set,hcl,hcr,hcb,h3l1,env3o,w]
theorem h3l1_eq:h3l1 = .seq (hcl h3l1) (.seq (.block 1 bd3 [3,9,12,15,16,17,18,19]) (hcr (hcr h3l1))):=rfl
theorem env3o_keep (wh oh ah bh:HV) (p9:Nat) (at' tt:Int) (i:Nat):(env3o wh p9 oh ah bh at' tt i).keep [3,9,12,15,16,17,18,19]=env3o wh p9 oh ah bh at' tt i:=by simp [env3o,HEnv.keep]
theorem blkX {st st':HSt} (wh:List Int) (oh ah bh:HV) (p9:Nat) (at' tt:Int) {i:Nat} (hi:i ≤ wh.length) (r:Run C0 K TH bd3 (env3o (hB8 wh) p9 oh ah bh at' tt i,st) (.exit 0) ([],st')) :
    Run C0 K TH h3l1 (env3o (hB8 wh) p9 oh ah bh at' tt i,st) (.exit 0) ([],st'):=by
  rw [h3l1_eq]
  exact Run.seq (head3 wh oh ah bh p9 at' tt hi) (Run.seqX (Run.block (id:=1) (k:=[3,9,12,15,16,17,18,19]) r) (by simp [blockX]))
theorem blkN {st st':HSt} (wh:List Int) (oh ah bh ah' bh':HV) (p9:Nat) (at' tt v w:Int) {i:Nat} (hi:i ≤ wh.length) (hi':i < 1000) (r:Run C0 K TH bd3 (env3o (hB8 wh) p9 oh ah bh at' tt i,st) .norm (env3o (hB8 wh) p9 oh ah' bh' v w i,st')) :
    Run C0 K TH h3l1 (env3o (hB8 wh) p9 oh ah bh at' tt i,st) .norm (env3o (hB8 wh) p9 oh ah' bh' v w (i + 1),st'):=by
  rw [h3l1_eq]
  refine Run.seq (head3 wh oh ah bh p9 at' tt hi) (Run.seq (Run.block (id:=1) (k:=[3,9,12,15,16,17,18,19]) r) ?_)
  show Run C0 K TH _ ((env3o (hB8 wh) p9 oh ah' bh' v w i).keep [3,9,12,15,16,17,18,19],st') _ _
  rw [env3o_keep]
  exact tail3 (hB8 wh) oh ah' bh' p9 v w hi'
theorem q0:bd3 = .seq (hcl (pc3 0)) (pc3 1):=rfl
theorem q1':pc3 1 = .seq (hcl (pc3 1)) (pc3 2):=rfl
theorem q2':pc3 2 = .seq (hcl (pc3 2)) (pc3 3):=rfl
theorem q3':pc3 3 = .seq (hcl (pc3 3)) (pc3 4):=rfl
theorem q4':pc3 4 = .seq (hcl (pc3 4)) (pc3 5):=rfl
theorem q5:pc3 5 = .seq (hcl (pc3 5)) (pc3 6):=rfl
theorem q6:pc3 6 = .seq (hcl (pc3 6)) (pc3 7):=rfl
theorem q7:pc3 7 = .seq (hcl (pc3 7)) (pc3 8):=rfl
theorem q8:pc3 8 = .seq (hcl (pc3 8)) (pc3 9):=rfl
theorem q9:pc3 9 = .seq (hcl (pc3 9)) (pc3 10):=rfl
theorem q10:pc3 10 = .seq (hcl (pc3 10)) (pc3 11):=rfl
theorem Two.same {base n:Nat} {st st':HSt} {ah bh:HV} {xs ys:List Int} (H:Two base st ah bh xs ys) (S:Same st.length st st'):Two base st' ah bh xs ys:=by
  have h:∀ {h:HV} {zs:List Int},RowI base st h zs→RowI base st' h zs:=fun {h zs} R=>by
    rcases R with h1 | ⟨b,h1,h2,h3,h4⟩
    · exact .inl h1
    · exact .inr ⟨b,h1,h2,h3,S.some (List.getElem?_eq_some_iff.1 h4).1 h4⟩
  exact ⟨h H.A,h H.B,H.len,H.ne⟩
theorem Old.same {base:Nat} {st st':HSt} {sp p9 ob:Nat} {As:List Area} {L:List r26_Object} (O:Old st sp p9 ob As L) (S:Same base st st') (h:p9 < base∧ob < base):Old st' sp p9 ob As L :=
  ⟨S.some h.1 O.b9,S.some h.2 O.ob⟩
theorem has_eq {ws:List Int} {L:List r26_Object} {F:List Int} {m:Int→Int} (M:Mvd ws L F m) {xs:List Int} (hx:∀ p ∈ xs,p ∈ F) {at' tt:Int} (h:(at' = 0∧tt=0) ∨ (at' ∈ F∧tt=m at')):xs.contains at' = (xs.map m).contains tt:=by
  rw [Bool.eq_iff_iff]
  simp only [List.contains_eq_mem,decide_eq_true_eq,List.mem_map]
  rcases h with ⟨rfl,rfl⟩ | ⟨h,rfl⟩
  · constructor
    · intro h0
      obtain ⟨_,_,_,_,h1,_⟩:=M.obj 0 (hx 0 h0)
      omega
    · rintro ⟨p,hp,h0⟩
      obtain ⟨_,_,_,_,_,h1,_⟩:=M.obj p (hx p hp)
      omega
  · constructor
    · exact fun h1=>⟨at',h1,rfl⟩
    · rintro ⟨p,hp,h1⟩
      rw [← M.inj p (hx p hp) at' h h1];exact hp
structure W3 (base sp wb p9 ob:Nat) (ws:List Int) (As:List Area) (L:List r26_Object) (F:List Int) (m:Int→Int) (ways:List Int):Prop where
  lt:sp < base∧wb < base∧p9 < base∧ob < base
  hb:ws.length < 1000000000
  hl:L.length < 100000
  M:Mvd ws L F m
  hw:ways.length < 1000
  hwr:∀ v ∈ ways,0 ≤ v∧v < 256
theorem stop3 {base:Nat} {sp wb p9 ob:Nat} {ws:List Int} {As:List Area} {L:List r26_Object} {F:List Int} {m:Int→Int} {ways:List Int} (W:W3 base sp wb p9 ob ws As L F m ways) (B:KPu K) (hk:∀ ws st,K 20 ws st = .none) {st:HSt} (oh:HV) {ah bh:HV} {xs:List Int} (T2:Two base st ah bh xs (xs.map m)) (hxl:xs.length < 40000) (hx:∀ p ∈ xs,p ∈ F) {i:Nat} (hi:i ≤ ways.length) :
    ∃ st',Run C0 K TH h3l1 (env3o (hB8 ways) p9 oh ah bh 0 0 i,st) (.exit 0) ([],st'):=by
  obtain ⟨st1,r0,S1⟩:=part1 B hk (hB8 ways) oh p9 T2.A T2.B (fun b e=>by
    rcases T2.B with ⟨_,h1⟩ | ⟨b',h1,h2,h3,h4⟩
    · rw [h1] at e;cases e
    · rw [h3] at e;cases e;exact (List.getElem?_eq_some_iff.1 h4).1) T2.len hxl (.inl ⟨rfl,rfl⟩) (has_eq W.M hx (.inl ⟨rfl,rfl⟩)) i
  refine ⟨st1,blkX ways oh ah bh p9 0 0 hi ?_⟩
  rw [q0]
  refine Run.seq r0 ?_
  rw [q1']
  exact Run.seqX (part2X (hB8 ways) oh ah bh p9 0 i) (by simp)
theorem step3 {base:Nat} {sp wb p9 ob:Nat} {ws:List Int} {As:List Area} {L:List r26_Object} {F:List Int} {m:Int→Int} {ways:List Int} (W:W3 base sp wb p9 ob ws As L F m ways) (C:KE K) (hk:∀ ws st,K 20 ws st = .none) {st:HSt} (hbase:base ≤ st.length) (S:SpaceAt st sp wb ws) (O:Old st sp p9 ob As L) {ah bh:HV} {xs:List Int} (T2:Two base st ah bh xs (xs.map m)) (hx:∀ p ∈ xs,p ∈ F) {i:Nat} (hi:i ≤ ways.length) (hxi:xs.length ≤ i) {at':Int} (hat:at' ∈ F) :
    (∃ st',Run C0 K TH h3l1 (env3o (hB8 ways) p9 (.row ob 0 L.length 4) ah bh at' (m at') i,st) (.exit 0) ([],st')) ∨
    (i < ways.length ∧ ∃ st' ah' bh' v,Run C0 K TH h3l1 (env3o (hB8 ways) p9 (.row ob 0 L.length 4) ah bh at' (m at') i,st) .norm (env3o (hB8 ways) p9 (.row ob 0 L.length 4) ah' bh' v (m v) (i + 1),st')∧Two base st' ah' bh' (xs ++ [at']) ((xs ++ [at']).map m)∧Same base st st' ∧ (v=0 ∨ v ∈ F)):=by
  obtain ⟨l1,l2,l3,l4⟩:=W.lt
  have hwl:=W.hw
  obtain ⟨k,o,hf,ho,hp0,hm0,hxo,hlen,hhd,hsl⟩:=W.M.obj at' hat
  have hne:at' ≠ 0:=by omega
  obtain ⟨t,ht⟩:∃ t:Nat,m at' = t:=⟨(m at').toNat,by omega⟩
  obtain ⟨st1,r0,S1⟩:=part1 C.toKPu hk (hB8 ways) (.row ob 0 L.length 4) p9 T2.A T2.B (fun b e=>by
    rcases T2.B with ⟨_,h1⟩ | ⟨b',h1,h2,h3,h4⟩
    · rw [h1] at e;cases e
    · rw [h3] at e;cases e;exact (List.getElem?_eq_some_iff.1 h4).1) T2.len (by omega) (at':=at') (tt:=m at') (.inr ⟨by simpa using hne,by simp;omega⟩) (has_eq W.M hx (.inr ⟨hat,rfl⟩)) i
  have S1b:=S1.mono hbase
  have hb1:base ≤ st1.length:=Nat.le_trans hbase S1.len
  have r1:=part2 (K:=K) (st:=st1) (hB8 ways) (.row ob 0 L.length 4) ah bh p9 (at':=at') (by simpa using hne) (m at') i
  obtain ⟨st2,ah2,bh2,r2,T3,S2⟩:=part3 (K:=K) hb1 (hB8 ways) (.row ob 0 L.length 4) p9 (T2.same (n:=0) S1) (by omega) at' (m at') i
  have S12:=S1b.trans S2
  have O2:=O.same S12 ⟨l3,l4⟩
  have Sp2:=S12.space S l1 l2
  have r3:=part4 (K:=K) C.toKPu O2 (hB8 ways) ah2 bh2 hf (m at') i
  have r4:=part5 (K:=K) (st:=st2) (hB8 ways) ah2 bh2 p9 ob L.length (m at') i k
  rw [ht] at hhd hsl r0 r1 r2 r3 r4 ⊢
  rw [Int.toNat_natCast] at hhd hsl
  have r5:=part6 C Sp2 O2 (hB8 ways) ah2 bh2 L.length (t:=t) (by omega) hxo hhd i k
  let g:HSt:=[.box [hI o.Shape.Slots,hI o.Shape.Mask],.box [hI o.Shape.Slots,hI o.Shape.Mask]]
  have S3:Same st2.length st2 (st2 ++ g):=Same.app (Nat.le_refl _) g
  have hb2:base ≤ st2.length:=Nat.le_trans hb1 S2.len
  have S3b:Same base st2 (st2 ++ g):=Same.app hb2 g
  have T4:=T3.same (n:=0) S3
  have O3:=O2.same S3b ⟨l3,l4⟩
  have Sp3:=S3b.space Sp2 l1 l2
  have e21:(st2 ++ g)[st2.length + 1]? = some (.box [hI o.Shape.Slots,hI o.Shape.Mask]):=by rw [getElem?_len];rfl
  have r6:=part7 (K:=K) O3 ways T4 t i ho e21
  have r7:=part8 C Sp3 W.hb O3 W.hl ways T4 t (by omega) i ho hxo hlen e21 (fun j v hv hp=>by
    have:=(hsl j v hv).1
    rw [hp] at this
    simpa using this)
  by_cases hstop:i=ways.length ∨ (i ≠ ways.length∧o.Shape.Slots=0)
  · left
    have r8:=part9X (K:=K) ways ah2 bh2 p9 ob L.length t k e21 hstop
    refine ⟨st2 ++ g,blkX ways _ ah bh p9 at' t hi ?_⟩
    rw [q0];refine Run.seq r0 ?_
    rw [q1'];refine Run.seq r1 ?_
    rw [q2'];refine Run.seq r2 ?_
    rw [q3'];refine Run.seq r3 ?_
    rw [q4'];refine Run.seq r4 ?_
    rw [q5];refine Run.seq r5 ?_
    rw [q6];refine Run.seq r6 ?_
    rw [q7];refine Run.seq r7 ?_
    rw [q8];exact Run.seqX r8 (by simp)
  · have hil:i < ways.length:=by omega
    have hs0:o.Shape.Slots ≠ 0:=by omega
    have h16:=hxo.2.1
    have h17:=hxo.1
    have r8:=part9 (K:=K) ways ah2 bh2 p9 ob L.length t k e21 (by omega:i ≠ ways.length) hs0
    have hv:ways[i]? = some ways[i]:=by simp [hil]
    have hvr:=W.hwr ways[i] (List.getElem_mem hil)
    obtain ⟨jj,hj⟩:∃ jj:Nat,Int.tmod ways[i] o.Shape.Slots=jj:=⟨(Int.tmod ways[i] o.Shape.Slots).toNat,by have:=Int.tmod_nonneg o.Shape.Slots hvr.1;omega⟩
    have hjl:(jj:Int) < o.Shape.Slots:=by rw [← hj];exact Int.tmod_lt_of_pos _ (by omega)
    have r9:=part10 (K:=K) ways (by omega) T4 p9 ob L.length t k e21 hv hvr ⟨by omega,h16⟩ hj
    cases hp:ptB o.Shape jj with
    | false =>
      left
      have r10:=part11X C.toKPu ways T4 p9 ob L.length t i k hxo e21 hp
      refine ⟨st2 ++ g,blkX ways _ ah bh p9 at' t hi ?_⟩
      rw [q0];refine Run.seq r0 ?_
      rw [q1'];refine Run.seq r1 ?_
      rw [q2'];refine Run.seq r2 ?_
      rw [q3'];refine Run.seq r3 ?_
      rw [q4'];refine Run.seq r4 ?_
      rw [q5];refine Run.seq r5 ?_
      rw [q6];refine Run.seq r6 ?_
      rw [q7];refine Run.seq r7 ?_
      rw [q8];refine Run.seq r8 ?_
      rw [q9];refine Run.seq r9 ?_
      rw [q10];exact Run.seqX r10 (by simp)
    | true =>
      right
      have hjs:jj < o.Slots.length:=by omega
      obtain ⟨hw,hF⟩:=hsl jj o.Slots[jj] (by simp [hjs])
      rw [if_pos hp] at hw
      have r10:=part11 C.toKPu ways T4 p9 ob L.length t i k hxo e21 hp
      have r11:=part12 C Sp3 W.hb O3 W.hl ways T4 (t:Int) (by omega) i ho (jj:=jj) (by omega) (v:=o.Slots[jj]) (w:=m o.Slots[jj]) (by simp [hjs]) hw
      refine ⟨hil,st2 ++ g,ah2,bh2,o.Slots[jj],blkN ways _ ah bh ah2 bh2 p9 at' t _ _ hi (by omega) ?_,by rw [List.map_append,List.map_cons,List.map_nil,ht];rw [ht] at T4;exact T4,S12.trans S3b,hF hp⟩
      rw [q0];refine Run.seq r0 ?_
      rw [q1'];refine Run.seq r1 ?_
      rw [q2'];refine Run.seq r2 ?_
      rw [q3'];refine Run.seq r3 ?_
      rw [q4'];refine Run.seq r4 ?_
      rw [q5];refine Run.seq r5 ?_
      rw [q6];refine Run.seq r6 ?_
      rw [q7];refine Run.seq r7 ?_
      rw [q8];refine Run.seq r8 ?_
      rw [q9];refine Run.seq r9 ?_
      rw [q10];exact Run.seq r10 r11
theorem loop3 {base:Nat} {sp wb p9 ob:Nat} {ws:List Int} {As:List Area} {L:List r26_Object} {F:List Int} {m:Int→Int} {ways:List Int} (W:W3 base sp wb p9 ob ws As L F m ways) (C:KE K) (hk:∀ ws st,K 20 ws st = .none):∀ (n i:Nat) (st:HSt) (ah bh:HV) (xs:List Int) (at':Int),ways.length - i=n→i ≤ ways.length→base ≤ st.length→SpaceAt st sp wb ws→Old st sp p9 ob As L→Two base st ah bh xs (xs.map m)→(∀ p ∈ xs,p ∈ F)→xs.length ≤ i→(at' = 0 ∨ at' ∈ F) →
    ∃ st',Run C0 K TH (.loop h3l1 [3,9,12,15,16,17,18,19]) (env3o (hB8 ways) p9 (.row ob 0 L.length 4) ah bh at' (m at') i,st) (.exit 0) ([],st')
  | n, i, st,ah,bh,xs,at',hn,hi,hb,S,O,T2,hx,hxi,hat=>by
    have hwl:=W.hw
    rcases hat with rfl | hat
    · rw [W.M.zero]
      obtain ⟨st',r⟩:=stop3 W C.toKPu hk (.row ob 0 L.length 4) T2 (by omega) hx hi
      exact ⟨st',Run.loopX r (by simp)⟩
    · rcases step3 W C hk hb S O T2 hx hi hxi hat with ⟨st',r⟩ | ⟨hil,st1,ah1,bh1,v,r,T3,S1,hv⟩
      · exact ⟨st',Run.loopX r (by simp)⟩
      · cases n with
        | zero=>omega
        | succ n =>
          obtain ⟨l1,l2,l3,l4⟩:=W.lt
          obtain ⟨st2,r2⟩:=loop3 W C hk n (i + 1) st1 ah1 bh1 (xs ++ [at']) v (by omega) (by omega) (Nat.le_trans hb S1.len) (S1.space S l1 l2) (O.same S1 ⟨l3,l4⟩) T3 (fun p hp=>by
            rcases List.mem_append.1 hp with h | h
            · exact hx p h
            · rw [List.mem_singleton] at h;subst h;exact hat) (by simp;omega) hv
          refine ⟨st2,Run.loopN r ?_⟩
          rw [env3o_keep];exact r2
end Go.Ab
namespace Go.Ab
open Go
set_option linter.unusedVariables false
set_option linter.unusedSimpArgs false
set_option maxRecDepth 10000
set_option maxHeartbeats 4000000
variable {K:HCalls} {ars:List Area} {L:List r26_Object} {hi:Int}
theorem killD_one {st:HSt} {b i:Nat} {x:HB} (h:st[i]? = some x) (hn:i ≠ b):(killD [b] st)[i]? = some x:=by
  rw [killD_get,if_neg (by simp;intro e;exact absurd e hn),h]
theorem lev_T {l li:List Nat} {f:Nat} (h1:l.contains f=false) (h2:li.contains f=true) {wv:List HV} {st st':HSt} {a:Area} {oh:HV} {xs:List Int} (hne:xs ≠ []) (n:Nat)
    (e:evHF C0 K TH n f wv st=some (mkTup [hA a,oh],st')) (R:RowI st.length st' oh xs) {sp wb:Nat} {ws':List Int} (S:SpaceAt st' sp wb ws') (hsp:sp < st.length∧wb < st.length) (Kp:Keeps wb st st') :
    ∃ st2,lev K l li f wv st=some (.p (.tup [.agg [.int .i64 a.Lo,.int .i64 a.Hi,.int .i64 a.Next],.sl xs.length (xs.flatMap (cint .i64))]),st2)∧SpaceAt st2 sp wb ws' ∧ Keeps wb st st2:=by
  rcases R with ⟨h,_⟩ | ⟨b,_,hb,rfl,hst⟩
  · exact absurd h hne
  rw [intmap] at hst
  have e0:mkTup [hA a,.row b 0 xs.length 1] = .tup [hA a,.row b 0 xs.length 1]:=rfl
  rw [e0] at e
  have er:rowsH st' 4 (.tup [hA a,.row b 0 xs.length 1])=[b]:=by
    have e1:rowsH st' 3 (.row b 0 xs.length 1)=rowsV st' 3 (.row b 0 xs.length 1):=rfl
    simp only [rowsH,List.flatMap_cons,List.flatMap_nil,e1,rowsH_p,List.nil_append,List.append_nil]
    rw [rowsV_row hst,List.drop_zero,← List.map_take,rowsV_ps,rowsV_p]
    rfl
  have hr:=rdD_row (k:=3) (D:=[b]) (off:=0) (len:=xs.length) (sz:=1) (by simp) hst (by rw [List.length_map,int_len];omega) (by
    rw [List.drop_zero,List.take_of_length_le (by rw [List.length_map,int_len];omega)]
    exact allO_p (int_free xs))
  have:=lev_i (K:=K) h1 h2 n e (r':=.p (.tup [.agg [.int .i64 a.Lo,.int .i64 a.Hi,.int .i64 a.Next],.sl xs.length (xs.flatMap (cint .i64))])) (by
    rw [er]
    simp only [iceV,allO,hr,Option.map_some]
    rfl)
  rw [er] at this
  refine ⟨_,this,⟨killD_one S.s (by omega),killD_one S.w (by omega)⟩,⟨by rw [killD_len];exact Kp.len,fun i hi hn=>?_⟩⟩
  rw [killD_get,if_neg (by simp;omega)]
  exact Kp.get i hi hn
def F18 (K:HCalls):Prop:=∀ {ars:List Area} {L:List r26_Object} {hi:Int} {st:HSt} {sp wb:Nat} {ws:List Int} (S:SpaceAt st sp wb ws) (hwl:ws.length < 1000000000) {ah:HV} (hAr:AreasAt st ah ars) (to:Area) {rs:List Int} (hne:rs ≠ []) (hrs:rs.length < 100000) (hro:∀ p ∈ rs,AddrOk L p) {al:HV} {l:List Int} (hal:IntsAt st al l) (hbw:∀ b n,al = .row b 0 n 1→b ≠ wb) (hl:l.length < 100000) (hnd:l.Nodup) (hob:∀ p ∈ l,∃ o ∈ L,o.At=p∧inAny ars p=false)
    (M:Mk ars L to.Next hi (live L ars rs l)) (hptr:∀ o ∈ L,PtrOk L o) (hok:∀ o ∈ L,OkSh o.Shape∧(o.Slots.length:Int)=o.Shape.Slots) (H0:MVI L ars to.Next hi ws [] (nf L ars)),
    ∃ st' ws',K 18 [.ptr sp 0,ah,hA to,hN rs,al] st=some (.p (.tup [.agg [.int .i64 to.Lo,.int .i64 to.Hi,.int .i64 (endT L to.Next (live L ars rs l))],.sl rs.length ((rs.map (mv L to.Next (live L ars rs l))).flatMap (cint .i64))]),st')∧SpaceAt st' sp wb ws' ∧ ws'.length=ws.length ∧
      MVI L ars to.Next hi ws' (live L ars rs l) ((nf L ars).map (trnIf L to.Next (live L ars rs l) l) ++ (cps L to.Next (live L ars rs l)).map (trnO L to.Next (live L ars rs l)))∧Keeps wb st st'
theorem F18_of (B:KB K) {l li:List Nat} (h1:l.contains 18=false) (h2:li.contains 18=true):F18 (lev K l li):=by
  intro ars L hi st sp wb ws S hwl ah hAr to rs hne hrs hro al l' hal hbw hl hnd hob M hptr hok H0
  obtain ⟨st',ws',n0,oh,e,S',hwl',M',R,Kp⟩:=e18 B S hwl hAr to hrs hro hal hbw hl hnd hob M hptr hok H0
  obtain ⟨ls,lw,_⟩:=S.lt
  obtain ⟨st2,e2,S2,K2⟩:=lev_T h1 h2 (xs:=rs.map (mv L to.Next (live L ars rs l'))) (by simpa using hne) n0 (e n0 (Nat.le_refl _)) R S' ⟨ls,lw⟩ Kp
  rw [List.length_map] at e2
  exact ⟨st2,ws',e2,S2,hwl',M',K2⟩
theorem F18_lev {l li:List Nat} (h1:l.contains 18=false) (h2:li.contains 18=false) (F:F18 K):F18 (lev K l li):=by
  intro ars L hi st sp wb ws S hwl ah hAr to rs hne hrs hro al l' hal hbw hl hnd hob M hptr hok H0
  rw [lev_none h1 h2]
  exact F S hwl hAr to hne hrs hro hal hbw hl hnd hob M hptr hok H0
theorem KS2_18:F18 KS2:=F18_lev (by decide) (by decide) (F18_of KS0_B (by decide) (by decide))
end Go.Ab
namespace Go.Ab
open Go
set_option linter.unusedVariables false
set_option linter.unusedSimpArgs false
set_option maxRecDepth 10000
set_option maxHeartbeats 4000000
variable {K:HCalls}
theorem k17 (B:KPu K) {L:List r26_Object} {fr rs:List Int} (h:l26_roots L fr=some rs) (n:Nat) (st:HSt):evHF C0 K TH (n + 1) 17 [hL L,hB8 fr] st=some (hN rs,st) :=
  B.known (f:=17) rfl (ws:=[.sl L.length (L.flatMap cr26_Object),.sl fr.length (fr.flatMap (cint .u8))]) rfl (l26_roots_ok L fr rs h) rfl rfl rfl n st
theorem e3g (k15:∀ n st,evHF C0 K TH (n + 1) 15 [] st=some (.p (.bool true),st)) (hk:∀ ws st,K 3 ws st = .none) (z:Int) (ops:List l26_Op) (fr ways:List Int) (h:60 < ops.length ∨ (ops.length ≤ 60∧fr.length=0) ∨ (ops.length ≤ 60∧fr.length ≠ 0∧20 < fr.length) ∨ (ops.length ≤ 60∧fr.length ≠ 0∧fr.length ≤ 20∧60 < ways.length)) (st:HSt) :
    evHF C0 K TH 60 3 [.p (.int .u8 z),hOps ops,hB8 fr,hB8 ways] st=some (.p (.bool true),st):=by
  rcases h with h | ⟨h1,h2⟩ | ⟨h1,h2,h3⟩ | ⟨h1,h2,h3,h4⟩
  · have a1:(60:Int) < ops.length:=by omega
    refine evHF_in (n:=59) hk (x:=h3) rfl rfl ?_
    simp (config:={ maxSteps:=4000000 }) [↓hs_pre,↓evP_call0',hs_eq,h3,h,a1,k15]
  · have a1:¬ (60:Int) < ops.length:=by omega
    have a1':¬ 60 < ops.length:=by omega
    have:fr=[]:=List.eq_nil_of_length_eq_zero h2
    subst this
    refine evHF_in (n:=59) hk (x:=h3) rfl rfl ?_
    simp (config:={ maxSteps:=4000000 }) [↓hs_pre,↓evP_call0',hs_eq,h3,a1,a1',k15]
  · have a1:¬ (60:Int) < ops.length:=by omega
    have a1':¬ 60 < ops.length:=by omega
    have a2:((fr.length:Int) == 0)=false:=by simp;intro e;simp [e] at h2
    have a3:(20:Int) < fr.length:=by omega
    refine evHF_in (n:=59) hk (x:=Go.Ab.h3) rfl rfl ?_
    simp (config:={ maxSteps:=4000000 }) [↓hs_pre,↓evP_call0',hs_eq,Go.Ab.h3,a1,a1',a2,h2,h3,a3,k15]
  · have a1:¬ (60:Int) < ops.length:=by omega
    have a1':¬ 60 < ops.length:=by omega
    have a2:((fr.length:Int) == 0)=false:=by simp;intro e;simp [e] at h2
    have a3:¬ (20:Int) < fr.length:=by omega
    have a3':¬ 20 < fr.length:=by omega
    have a4:(60:Int) < ways.length:=by omega
    refine evHF_in (n:=59) hk (x:=Go.Ab.h3) rfl rfl ?_
    simp (config:={ maxSteps:=4000000 }) [↓hs_pre,↓evP_call0',hs_eq,Go.Ab.h3,a1,a1',a2,h2,a3,a3',h4,a4,k15]
end Go.Ab
namespace Go.Ab
open Go
set_option linter.unusedVariables false
set_option linter.unusedSimpArgs false
set_option maxRecDepth 10000
set_option maxHeartbeats 4000000
variable {K:HCalls}
def bk3:Nat→HC
  | 0=>h3.body
  | n + 1=>hcr (bk3 n)
def env3p (z:Int) (ops:List l26_Op) (fr ways:List Int):HEnv:=[(0,.p (.int .u8 z)),(1,hOps ops),(2,hB8 fr),(3,hB8 ways)]
def env3a (ways:List Int) (p9:Nat) (rs:List Int):HEnv:=[(3,hB8 ways),(9,.ptr p9 0),(11,hN rs)]
def env3b (ways:List Int) (p9:Nat) (rs:List Int) (oh:HV):HEnv:=[(3,hB8 ways),(9,.ptr p9 0),(11,hN rs),(12,oh)]
def env3d (ways:List Int) (p9:Nat) (rs vs:List Int) (oh:HV):HEnv:=[(3,hB8 ways),(9,.ptr p9 0),(11,hN rs),(12,oh),(14,hN vs)]
def env3e (ways:List Int) (p9:Nat) (rs vs:List Int) (oh:HV):HEnv:=[(3,hB8 ways),(9,.ptr p9 0),(11,hN rs),(12,oh),(14,hN vs),(15,.p .nils),(16,.p .nils)]
def env3f (ways:List Int) (p9:Nat) (oh:HV) (at' tt:Int):HEnv:=[(3,hB8 ways),(9,.ptr p9 0),(12,oh),(15,.p .nils),(16,.p .nils),(17,hI at'),(18,hI tt)]
theorem run0 (z:Int) (ops:List l26_Op) (fr ways:List Int) (st:HSt):Run C0 K TH (hcl (bk3 0)) (env3p z ops fr ways,st) .norm (env3p z ops fr ways,st):=by
  refine Run.of 60 ?_
  simp (config:={ maxSteps:=4000000 }) [↓hs_pre,↓evP_call0',hs_eq,-getElem?_pos,List.getElem?_cons_zero,List.getElem?_cons_succ,get_lt,set_lt,get_set_ne,get_set_self,get_off,get_off0,set_off,set_off0,len_set,h3,bk3,hcl,hcr,env3p]
theorem run1 (z:Int) (ops:List l26_Op) (fr ways:List Int) (st:HSt) (h1:ops.length ≤ 60) (h2:fr.length ≠ 0) (h3:fr.length ≤ 20) (h4:ways.length ≤ 60):Run C0 K TH (hcl (bk3 1)) (env3p z ops fr ways,st) .norm (env3p z ops fr ways,st):=by
  have a1:¬ (60:Int) < ops.length:=by omega
  have a1':¬ 60 < ops.length:=by omega
  have a2:((fr.length:Int) == 0)=false:=by simp;intro e;simp [e] at h2
  have a3:¬ (20:Int) < fr.length:=by omega
  have a3':¬ 20 < fr.length:=by omega
  have a4:¬ (60:Int) < ways.length:=by omega
  have a4':¬ 60 < ways.length:=by omega
  refine Run.of 60 ?_
  simp (config:={ maxSteps:=4000000 }) [↓hs_pre,↓evP_call0',hs_eq,-getElem?_pos,List.getElem?_cons_zero,List.getElem?_cons_succ,get_lt,set_lt,get_set_ne,get_set_self,get_off,get_off0,set_off,set_off0,len_set,Go.Ab.h3,bk3,hcl,hcr,env3p,a1,a1',a2,h2,a3,a3',a4,a4']
theorem run2 (z:Int) (ops:List l26_Op) (fr ways:List Int) {st st1:HSt} {sp:Nat} {As:List Area} {L:List r26_Object} {n:Nat} (e:evHF C0 K TH n 16 [.p (.int .u8 z),hOps ops] st=some (.tup [hW sp As L,.p (.bool true)],st1)) :
    Run C0 K TH (hcl (bk3 2)) (env3p z ops fr ways,st) .norm ([(2,hB8 fr),(3,hB8 ways),(9,.ptr st1.length 0),(10,.p (.bool true))],st1 ++ [.box [.ptr sp 0,hAs As,hL L]]):=by
  have e':evHF C0 K TH (n + 60) 16 [.p (.int .u8 z),hOps ops] st=some (.tup [hW sp As L,.p (.bool true)],st1):=evHF_mono (by omega) _ _ _ _ e
  refine Run.of (n + 60) ?_
  simp (config:={ maxSteps:=4000000 }) [↓hs_pre,↓evP_call0',hs_eq,-getElem?_pos,List.getElem?_cons_zero,List.getElem?_cons_succ,get_lt,set_lt,get_set_ne,get_set_self,get_off,get_off0,set_off,set_off0,len_set,h3,bk3,hcl,hcr,env3p,e']
theorem run3 (fr ways:List Int) (p9:Nat) (st:HSt):Run C0 K TH (hcl (bk3 3)) ([(2,hB8 fr),(3,hB8 ways),(9,.ptr p9 0),(10,.p (.bool true))],st) .norm ([(2,hB8 fr),(3,hB8 ways),(9,.ptr p9 0)],st):=by
  refine Run.of 60 ?_
  simp (config:={ maxSteps:=4000000 }) [↓hs_pre,↓evP_call0',hs_eq,-getElem?_pos,List.getElem?_cons_zero,List.getElem?_cons_succ,get_lt,set_lt,get_set_ne,get_set_self,get_off,get_off0,set_off,set_off0,len_set,h3,bk3,hcl,hcr]
theorem run4 (B:KPu K) (fr ways:List Int) {rs:List Int} {st:HSt} {p9 sp:Nat} {As:List Area} {L:List r26_Object} (b9:st[p9]? = some (.box [.ptr sp 0,hAs As,hL L])) (h:l26_roots L fr=some rs):Run C0 K TH (hcl (bk3 4)) ([(2,hB8 fr),(3,hB8 ways),(9,.ptr p9 0)],st) .norm (env3a ways p9 rs,st):=by
  have e:=fun n=>k17 B h n st
  refine Run.of 60 ?_
  simp (config:={ maxSteps:=4000000 }) [↓hs_pre,↓evP_call0',hs_eq,-getElem?_pos,List.getElem?_cons_zero,List.getElem?_cons_succ,get_lt,set_lt,get_set_ne,get_set_self,get_off,get_off0,set_off,set_off0,len_set,h3,bk3,hcl,hcr,env3a,b9,e]
theorem run5 {st:HSt} (ways:List Int) {p9 sp:Nat} {As:List Area} {L:List r26_Object} (hl:L.length < 100000) (rs:List Int) (b9:st[p9]? = some (.box [.ptr sp 0,hAs As,hL L])) (hz:L.length ≠ 0):Run C0 K TH (hcl (bk3 5)) (env3a ways p9 rs,st) .norm (env3b ways p9 rs (.row st.length 0 L.length 4),st ++ [.row 4 L.length ((L.flatMap cr26_Object).map .p)]):=by
  have c1:=cobj_len L
  have h1:L.length * 48 ≤ 1099511627776:=by omega
  have h2:L.length ≤ 1099511627776:=by omega
  have o5:=one_ps _ (cobj_free L)
  have o7:(∀ x ∈ L.flatMap cr26_Object,PV.free x=true)=True:=eq_true fun x hx=>cobj_free L x hx
  have o8:(L.flatMap cr26_Object).all PV.free=true:=List.all_eq_true.2 (cobj_free L)
  refine Run.of 60 ?_
  simp (config:={ maxSteps:=4000000 }) [↓hs_pre,↓evP_call0',hs_eq,-getElem?_pos,List.getElem?_cons_zero,List.getElem?_cons_succ,get_lt,set_lt,get_set_ne,get_set_self,get_off,get_off0,set_off,set_off0,len_set,h3,bk3,hcl,hcr,env3a,env3b,b9,hz,c1,h1,h2,o5,o7,o8]
theorem run5z {st:HSt} (ways:List Int) {p9 sp:Nat} {As:List Area} (rs:List Int) (b9:st[p9]? = some (.box [.ptr sp 0,hAs As,hL []])):Run C0 K TH (hcl (bk3 5)) (env3a ways p9 rs,st) .norm (env3b ways p9 rs (.p .nils),st):=by
  refine Run.of 60 ?_
  simp (config:={ maxSteps:=4000000 }) [↓hs_pre,↓evP_call0',hs_eq,-getElem?_pos,List.getElem?_cons_zero,List.getElem?_cons_succ,get_lt,set_lt,get_set_ne,get_set_self,get_off,get_off0,set_off,set_off0,len_set,h3,bk3,hcl,hcr,env3a,env3b,b9]
theorem run6 {st st':HSt} (ways:List Int) {p9 sp:Nat} {b0 b1 a2:Area} {L:List r26_Object} {rs vs:List Int} {oh:HV} (hoh:oh = .p .nils ∨ ∃ b n,oh = .row b 0 n 4) (b9:st[p9]? = some (.box [.ptr sp 0,hAs [b0,b1,a2],hL L])) {nx:Int} (e:K 18 [.ptr sp 0,hAs [b0,b1],hA a2,hN rs,.p .nils] st=some (.p (.tup [.agg [.int .i64 a2.Lo,.int .i64 a2.Hi,.int .i64 nx],.sl vs.length (vs.flatMap (cint .i64))]),st')) :
    ∃ g,Run C0 K TH (hcl (bk3 6)) (env3b ways p9 rs oh,st) .norm (env3d ways p9 rs vs oh,st' ++ g):=by
  have e':evHF C0 K TH 60 18 [.ptr sp 0,.p (.sl 2 [.int .i64 b0.Lo,.int .i64 b0.Hi,.int .i64 b0.Next,.int .i64 b1.Lo,.int .i64 b1.Hi,.int .i64 b1.Next]),.p (.agg [.int .i64 a2.Lo,.int .i64 a2.Hi,.int .i64 a2.Next]),.p (.sl rs.length (rs.flatMap (cint .i64))),.p .nils] st=_:=known_of e 59
  refine ⟨[.box [hI a2.Lo,hI a2.Hi,hI nx]],?_⟩
  rcases hoh with rfl | ⟨b,n,rfl⟩
  · refine Run.of 60 ?_
    simp (config:={ maxSteps:=4000000 }) [↓hs_pre,↓evP_call0',hs_eq,-getElem?_pos,List.getElem?_cons_zero,List.getElem?_cons_succ,get_lt,set_lt,get_set_ne,get_set_self,get_off,get_off0,set_off,set_off0,len_set,h3,bk3,hcl,hcr,env3b,env3d,b9,e',cArea]
  · refine Run.of 60 ?_
    simp (config:={ maxSteps:=4000000 }) [↓hs_pre,↓evP_call0',hs_eq,-getElem?_pos,List.getElem?_cons_zero,List.getElem?_cons_succ,get_lt,set_lt,get_set_ne,get_set_self,get_off,get_off0,set_off,set_off0,len_set,h3,bk3,hcl,hcr,env3b,env3d,b9,e',cArea]
theorem run7 (ways:List Int) (p9:Nat) {rs vs:List Int} (h:vs.length=rs.length) (oh:HV) (st:HSt):Run C0 K TH (hcl (bk3 7)) (env3d ways p9 rs vs oh,st) .norm (env3d ways p9 rs vs oh,st):=by
  refine Run.of 60 ?_
  simp (config:={ maxSteps:=4000000 }) [↓hs_pre,↓evP_call0',hs_eq,-getElem?_pos,List.getElem?_cons_zero,List.getElem?_cons_succ,get_lt,set_lt,get_set_ne,get_set_self,get_off,get_off0,set_off,set_off0,len_set,h3,bk3,hcl,hcr,env3d,h]
theorem run8 (ways:List Int) (p9:Nat) (rs vs:List Int) (oh:HV) (st:HSt):Run C0 K TH (hcl (bk3 8)) (env3d ways p9 rs vs oh,st) .norm (env3e ways p9 rs vs oh,st):=by
  refine Run.of 60 ?_
  simp (config:={ maxSteps:=4000000 }) [↓hs_pre,↓evP_call0',hs_eq,-getElem?_pos,List.getElem?_cons_zero,List.getElem?_cons_succ,get_lt,set_lt,get_set_ne,get_set_self,get_off,get_off0,set_off,set_off0,len_set,h3,bk3,hcl,hcr,env3d,env3e]
theorem run9 (ways:List Int) (p9:Nat) {rs vs:List Int} {oh:HV} (hoh:oh = .p .nils ∨ ∃ b n,oh = .row b 0 n 4) (st:HSt) {x y:Int} (hx:rs[0]? = some x) (hy:vs[0]? = some y):Run C0 K TH (hcl (bk3 9)) (env3e ways p9 rs vs oh,st) .norm (env3f ways p9 oh x y,st):=by
  have l1:0 < rs.length:=(List.getElem?_eq_some_iff.1 hx).1
  have l2:0 < vs.length:=(List.getElem?_eq_some_iff.1 hy).1
  have c1:=ints_at hx
  have c2:=ints_at hy
  simp only [List.drop_zero] at c1 c2
  rcases hoh with rfl | ⟨b,n,rfl⟩
  · refine Run.of 60 ?_
    simp (config:={ maxSteps:=4000000 }) [↓hs_pre,↓evP_call0',hs_eq,-getElem?_pos,List.getElem?_cons_zero,List.getElem?_cons_succ,get_lt,set_lt,get_set_ne,get_set_self,get_off,get_off0,set_off,set_off0,len_set,h3,bk3,hcl,hcr,env3e,env3f,l1,l2,c1,c2]
  · refine Run.of 60 ?_
    simp (config:={ maxSteps:=4000000 }) [↓hs_pre,↓evP_call0',hs_eq,-getElem?_pos,List.getElem?_cons_zero,List.getElem?_cons_succ,get_lt,set_lt,get_set_ne,get_set_self,get_off,get_off0,set_off,set_off0,len_set,h3,bk3,hcl,hcr,env3e,env3f,l1,l2,c1,c2]
theorem run10 (ways:List Int) (p9:Nat) (oh:HV) {st st':HSt} {x y:Int} (r:Run C0 K TH (.loop h3l1 [3,9,12,15,16,17,18,19]) (env3o (hB8 ways) p9 oh (.p .nils) (.p .nils) x y 0,st) (.exit 0) ([],st')):Run C0 K TH (hcl (bk3 10)) (env3f ways p9 oh x y,st) .norm ([],st'):=by
  obtain ⟨n0,hn0⟩:=Run.all r
  have z0:((0:Nat):Int)=0:=rfl
  simp only [env3o,hI,z0] at hn0
  refine Run.of (n0 + 60) ?_
  simp (config:={ maxSteps:=4000000 }) [↓hs_pre,↓evP_call0',hs_eq,-getElem?_pos,List.getElem?_cons_zero,List.getElem?_cons_succ,get_lt,set_lt,get_set_ne,get_set_self,get_off,get_off0,set_off,set_off0,len_set,h3,bk3,hcl,hcr,env3f,hn0]
theorem run11 (k15:∀ n st,evHF C0 K TH (n + 1) 15 [] st=some (.p (.bool true),st)) (st:HSt):Run C0 K TH (bk3 11) ([],st) .ret ([(8,.p (.bool true))],st):=by
  refine Run.of 60 ?_
  simp (config:={ maxSteps:=4000000 }) [↓hs_pre,↓evP_call0',hs_eq,-getElem?_pos,List.getElem?_cons_zero,List.getElem?_cons_succ,get_lt,set_lt,get_set_ne,get_set_self,get_off,get_off0,set_off,set_off0,len_set,h3,bk3,hcl,hcr,k15]
end Go.Ab
namespace Go.Ab
open Go
set_option linter.unusedVariables false
set_option linter.unusedSimpArgs false
set_option maxRecDepth 10000
set_option maxHeartbeats 4000000
theorem world0 {ws:List Int} {N:Int} {b0 b1:Area} {L:List r26_Object} (H:Spc ws [b0,b1,⟨1 + N + N,1 + N + N + 2 * N,1 + N + N⟩] L) (h0:b0.Lo=1∧b0.Hi=1 + N) (h1:b1.Lo=1 + N∧b1.Hi=1 + N + N) :
    (∀ o ∈ L,inAny [b0,b1] o.At=true)∧tot (L.map keyOf) ≤ 2 * N ∧ ∀ k ∈ L.map keyOf,k.1 + 1 + k.2 ≤ 1 + N + N:=by
  have o0:=H.lay.ord b0 (by simp)
  have o1:=H.lay.ord b1 (by simp)
  have hin:∀ k ∈ L.map keyOf,inA b0 k.1=true ∨ inA b1 k.1=true:=fun k hk=>by
    obtain ⟨a,ha,h⟩:=H.lay.cover k hk
    simp only [List.mem_cons,List.not_mem_nil,or_false] at ha
    rcases ha with rfl | rfl | rfl
    · exact .inl h
    · exact .inr h
    · rw [inA_iff] at h;simp only at h;omega
  refine ⟨fun o ho=>?_,?_,fun k hk=>?_⟩
  · have:=hin (keyOf o) (List.mem_map.2 ⟨o,ho,rfl⟩)
    simp only [keyOf] at this
    rw [inAny_iff]
    rcases this with h | h
    · exact ⟨b0,by simp,h⟩
    · exact ⟨b1,by simp,h⟩
  · have c0:=chain_tot (H.lay.chain b0 (by simp))
    have c1:=chain_tot (H.lay.chain b1 (by simp))
    have e:=tot_filter (fun k=>inA b0 k.1) (L.map keyOf)
    have e2:(L.map keyOf).filter (fun k=>!inA b0 k.1)=(L.map keyOf).filter fun k=>inA b1 k.1:=by
      refine List.filter_congr fun k hk=>?_
      rcases hin k hk with h | h
      · have h':=inA_iff.1 h
        have:inA b1 k.1=false:=by
          cases e:inA b1 k.1 with
          | false=>rfl
          | true=>have:=inA_iff.1 e;omega
        rw [h,this];rfl
      · have h':=inA_iff.1 h
        have:inA b0 k.1=false:=by
          cases e:inA b0 k.1 with
          | false=>rfl
          | true=>have:=inA_iff.1 e;omega
        rw [h,this];rfl
    rw [e2] at e
    omega
  · rcases hin k hk with h | h
    · have:=H.lay.ext (by simp) hk h;omega
    · have:=H.lay.ext (by simp) hk h;omega
theorem spaceAlike1 {z:Int} (hz:0 ≤ z∧z ≤ 255) (ops:List l26_Op) (hops:∀ o ∈ ops,OkOp o) (hl:ops.length < 140737488355328) (fr:List Int) (hfr:∀ v ∈ fr,0 ≤ v∧v < 256) (ways:List Int) (hwr:∀ v ∈ ways,0 ≤ v∧v < 256) :
    ∃ st',evHI C0 KS2 TH 3 [.p (.int .u8 z),hOps ops,hB8 fr,hB8 ways] []=some (.p (.bool true),st'):=by
  have k15:=fun n st=>known_of (KS2_15 st) n
  have hk:∀ ws st,KS2 3 ws st = .none:=KS2_none (by decide) (by decide) (by decide)
  have hk20:∀ ws st,KS2 20 ws st = .none:=KS2_none (by decide) (by decide) (by decide)
  by_cases hg:60 < ops.length ∨ (ops.length ≤ 60∧fr.length=0) ∨ (ops.length ≤ 60∧fr.length ≠ 0∧20 < fr.length) ∨ (ops.length ≤ 60∧fr.length ≠ 0∧fr.length ≤ 20∧60 < ways.length)
  · exact ⟨[],evHI_some.2 ⟨60,e3g k15 hk z ops fr ways hg []⟩⟩
  have g1:ops.length ≤ 60:=by omega
  have g2:fr.length ≠ 0:=by omega
  have g3:fr.length ≤ 20:=by omega
  have g4:ways.length ≤ 60:=by omega
  obtain ⟨n1,N,st1,sp,wb,ws,b0,b1,L,hN,e1,S,hw,H,hLn,h0,h1⟩:=e16 KS2_E (KS2_none (by decide) (by decide) (by decide)) hz ops hops (by omega) []
  obtain ⟨hall,htot,hout⟩:=world0 H h0 h1
  obtain ⟨rs,hrs,hrl,hra⟩:=roots_eq L (by omega) fr (by omega) hfr
  have hrne:rs ≠ []:=fun e=>by rw [e] at hrl;simp at hrl;omega
  have hz0:inAny [b0,b1] 0=false:=inAny_zero H.lay fun a ha=>by simp at ha ⊢;rcases ha with rfl | rfl <;> simp
  obtain ⟨F,hF⟩:∃ F,live L [b0,b1] rs []=F:=⟨_,rfl⟩
  obtain ⟨hFO,hFr,hFc⟩:=live_ok (L:=L) (ars:=[b0,b1]) hz0 H.ptr (rs:=rs) (al:=[]) hra
  rw [hF] at hFO hFr hFc
  have hfil:(L.filter fun o=>inAny [b0,b1] o.At)=L:=List.filter_eq_self.2 hall
  have hroom:=room H.lay.apart hFO (1 + N + N)
  rw [hfil] at hroom
  have hM:Mk [b0,b1] L (1 + N + N) (1 + N + N + 2 * N) F:=⟨hz0,H.lay.apart,by omega,by simp,hFO,by omega,by omega⟩
  have hwsl:=H.wsl ⟨1 + N + N,1 + N + N + 2 * N,1 + N + N⟩ (by simp)
  simp only at hwsl
  have h00:=mvi0 H [b0,b1] (1 + N + N) (1 + N + N + 2 * N) (by omega) hwsl (fun k hk=>.inl (hout k hk))
  have hok:∀ o ∈ L,OkSh o.Shape∧(o.Slots.length:Int)=o.Shape.Slots:=fun o ho=>⟨(H.ok o ho).sh,(H.ok o ho).len⟩
  obtain ⟨m,hm⟩:∃ m,mv L (1 + N + N) F=m:=⟨_,rfl⟩
  let st2:HSt:=st1 ++ [.box [.ptr sp 0,hAs [b0,b1,⟨1 + N + N,1 + N + N + 2 * N,1 + N + N⟩],hL L]]
  have S2:SpaceAt st2 sp wb ws:=S.app _
  obtain ⟨ls,lw,_⟩:=S.lt
  have b9:st2[st1.length]? = some (.box [.ptr sp 0,hAs [b0,b1,⟨1 + N + N,1 + N + N + 2 * N,1 + N + N⟩],hL L]):=by
    rw [getElem?_len0];rfl
  have r0:=run0 (K:=KS2) z ops fr ways []
  have r1:=run1 (K:=KS2) z ops fr ways [] g1 g2 g3 g4
  have r2:=run2 z ops fr ways e1
  have r3:=run3 (K:=KS2) fr ways st1.length st2
  have r4:=run4 KS2_E.toKPu fr ways b9 hrs
  have rest:∀ (st3:HSt) (oh:HV),(oh = .p .nils ∨ ∃ b n,oh = .row b 0 n 4)→Same st2.length st2 st3→Run C0 KS2 TH (hcl (bk3 5)) (env3a ways st1.length rs,st2) .norm (env3b ways st1.length rs oh,st3) →
      (∀ st5 ws5,SpaceAt st5 sp wb ws5→ws5.length=ws.length→Mvd ws5 L F m→Keeps wb st3 st5 → ∃ st6,Run C0 KS2 TH (.loop h3l1 [3,9,12,15,16,17,18,19]) (env3o (hB8 ways) st1.length oh (.p .nils) (.p .nils) rs[0]! (m rs[0]!) 0,st5) (.exit 0) ([],st6)) →
      ∃ st',evHI C0 KS2 TH 3 [.p (.int .u8 z),hOps ops,hB8 fr,hB8 ways] []=some (.p (.bool true),st'):=fun st3 oh hoh hs r5 hloop=>by
    have l2:st2.length=st1.length + 1:=by simp [st2]
    have S3:=hs.space S2 (by omega) (by omega)
    obtain ⟨st4,ws4,e18',S4,hwl4,M4,K4⟩:=KS2_18 (L:=L) S3 (by omega) (ah:=hAs [b0,b1]) (.inl rfl) ⟨1 + N + N,1 + N + N + 2 * N,1 + N + N⟩ hrne (by omega) hra (al:=.p .nils) (l:=[]) (.inl ⟨rfl,rfl⟩) (fun b n h=>by cases h) (by simp) List.nodup_nil (fun p hp=>by cases hp) (hi:=1 + N + N + 2 * N) (by rw [hF];exact hM) H.ptr hok h00
    rw [hF] at e18' M4
    simp only at e18' M4
    have hMv:=mvd_of (l:=[]) H (by omega:L.length < 100000) (by omega:(0:Int) < 1 + N + N) hall hz0 hFO hFc M4
    rw [hm] at hMv e18'
    rw [show rs.length=(rs.map m).length by simp] at e18'
    obtain ⟨g,r6⟩:=run6 ways hoh (hs.some (by omega) b9) e18'
    have r7:=run7 (K:=KS2) ways st1.length (rs:=rs) (vs:=rs.map m) (by simp) oh (st4 ++ g)
    have r8:=run8 (K:=KS2) ways st1.length rs (rs.map m) oh (st4 ++ g)
    have hx:rs[0]? = some rs[0]!:=by
      cases rs with
      | nil=>exact absurd rfl hrne
      | cons a l=>rfl
    have r9:=run9 (K:=KS2) ways st1.length hoh (st4 ++ g) hx (y:=m rs[0]!) (by rw [List.getElem?_map,hx];rfl)
    obtain ⟨st6,r⟩:=hloop (st4 ++ g) ws4 (S4.app g) hwl4 hMv (K4.trans (Keeps.app wb st4 g))
    have r10:=run10 ways st1.length oh r
    have r11:=run11 k15 st6
    have rr:Run C0 KS2 TH h3.body (env3p z ops fr ways,[]) .ret ([(8,.p (.bool true))],st6):=by
      rw [show h3.body = .seq (hcl (bk3 0)) (bk3 1) from rfl];refine Run.seq r0 ?_
      rw [show bk3 1 = .seq (hcl (bk3 1)) (bk3 2) from rfl];refine Run.seq r1 ?_
      rw [show bk3 2 = .seq (hcl (bk3 2)) (bk3 3) from rfl];refine Run.seq r2 ?_
      rw [show bk3 3 = .seq (hcl (bk3 3)) (bk3 4) from rfl];refine Run.seq r3 ?_
      rw [show bk3 4 = .seq (hcl (bk3 4)) (bk3 5) from rfl];refine Run.seq r4 ?_
      rw [show bk3 5 = .seq (hcl (bk3 5)) (bk3 6) from rfl];refine Run.seq r5 ?_
      rw [show bk3 6 = .seq (hcl (bk3 6)) (bk3 7) from rfl];refine Run.seq r6 ?_
      rw [show bk3 7 = .seq (hcl (bk3 7)) (bk3 8) from rfl];refine Run.seq r7 ?_
      rw [show bk3 8 = .seq (hcl (bk3 8)) (bk3 9) from rfl];refine Run.seq r8 ?_
      rw [show bk3 9 = .seq (hcl (bk3 9)) (bk3 10) from rfl];refine Run.seq r9 ?_
      rw [show bk3 10 = .seq (hcl (bk3 10)) (bk3 11) from rfl];exact Run.seq r10 r11
    obtain ⟨n,hn⟩:=Ans.intro (K:=KS2) hk (x:=h3) rfl (ws:=[.p (.int .u8 z),hOps ops,hB8 fr,hB8 ways]) rfl rr (by simp) (vs:=[.p (.bool true)]) rfl (r:=.p (.bool true)) rfl rfl
    exact ⟨_,evHI_some.2 ⟨n,hn⟩⟩
  have hat:rs[0]! = 0 ∨ rs[0]! ∈ F:=by
    have hx:rs[0]! ∈ rs:=by
      cases rs with
      | nil=>exact absurd rfl hrne
      | cons a l=>exact List.mem_cons_self
    rcases hra _ hx with h | ⟨o,ho,h⟩
    · exact .inl h
    · exact .inr (hFr _ hx (by rw [← h];exact hall o ho))
  have hl2:st2.length=st1.length + 1:=by simp [st2]
  by_cases hLz:L.length=0
  · have hLnil:L=[]:=List.eq_nil_of_length_eq_zero hLz
    have r5:Run C0 KS2 TH (hcl (bk3 5)) (env3a ways st1.length rs,st2) .norm (env3b ways st1.length rs (.p .nils),st2):=run5z (K:=KS2) ways (sp:=sp) (As:=[b0,b1,⟨1 + N + N,1 + N + N + 2 * N,1 + N + N⟩]) rs (by rw [← hLnil];exact b9)
    refine rest st2 _ (.inl rfl) (Same.refl _ _) r5 fun st5 ws5 S5 hw5 hMv K5=>?_
    have hr0:rs[0]! = 0:=hat.resolve_right fun h=>by
      obtain ⟨_,o,ho,_⟩:=hFO.mem _ h
      rw [hLnil] at ho;cases ho
    rw [hr0,hMv.zero]
    obtain ⟨st6,r⟩:=stop3 (sp:=sp) (wb:=wb) (ws:=ws5) (L:=L) (F:=F) (m:=m) (base:=st2.length) (p9:=st1.length) (ob:=0) (As:=[]) (ways:=ways) ⟨⟨by omega,by omega,by omega,by omega⟩,by omega,by omega,hMv,by omega,hwr⟩ KS2_E.toKPu hk20 (st:=st5) (.p .nils) (ah:=.p .nils) (bh:=.p .nils) (xs:=[]) ⟨.inl ⟨rfl,rfl⟩,.inl ⟨rfl,rfl⟩,rfl,fun b n c m h=>by cases h⟩ (by simp) (fun p hp=>by cases hp) (i:=0) (by omega)
    exact ⟨st6,Run.loopX r (by simp)⟩
  · have r5:=run5 (K:=KS2) ways (L:=L) (by omega) rs b9 hLz
    have hs:=Same.app (Nat.le_refl st2.length) [HB.row 4 L.length ((L.flatMap cr26_Object).map .p)]
    refine rest _ _ (.inr ⟨_,_,rfl⟩) hs r5 fun st5 ws5 S5 hw5 hMv K5=>?_
    have hob:(st2 ++ [HB.row 4 L.length ((L.flatMap cr26_Object).map .p)])[st2.length]? = some (.row 4 L.length ((L.flatMap cr26_Object).map .p)):=by rw [getElem?_len0];rfl
    have hlen3:(st2 ++ [HB.row 4 L.length ((L.flatMap cr26_Object).map .p)]).length=st2.length + 1:=by simp
    have K5l:=K5.len
    obtain ⟨l5a,l5b,_⟩:=S5.lt
    exact loop3 (base:=st2.length + 1) (p9:=st1.length) (ob:=st2.length) (As:=[b0,b1,⟨1 + N + N,1 + N + N + 2 * N,1 + N + N⟩]) ⟨⟨by omega,by omega,by omega,by omega⟩,by omega,by omega,hMv,by omega,hwr⟩ KS2_E hk20 ways.length 0 st5 (.p .nils) (.p .nils) [] rs[0]! rfl (by omega) (by omega) S5 ⟨K5.some (hs.some (by omega) b9) (by omega),K5.some hob (by omega)⟩ ⟨.inl ⟨rfl,rfl⟩,.inl ⟨rfl,rfl⟩,rfl,fun b n c m h=>by cases h⟩ (fun p hp=>by cases hp) (by simp) hat
end Go.Ab
namespace Go.Ab
open Go
set_option maxRecDepth 100000
theorem toh3:OkH1 Go.Proofs.Try.prog 3 h3:=⟨Go.Proofs.Try.f3,_,hintsH h3.body,Go.Proofs.Try.func3,by kernel_rfl,rfl,by decide,by decide,by kernel_rfl,by kernel_rfl⟩
theorem toh15:OkH1 Go.Proofs.Try.prog 15 h15:=⟨Go.Proofs.Try.f15,_,hintsH h15.body,Go.Proofs.Try.func15,by kernel_rfl,rfl,by decide,by decide,by kernel_rfl,by kernel_rfl⟩
theorem toh16:OkH1 Go.Proofs.Try.prog 16 h16:=⟨Go.Proofs.Try.f16,_,hintsH h16.body,Go.Proofs.Try.func16,by kernel_rfl,rfl,by decide,by decide,by kernel_rfl,by kernel_rfl⟩
theorem toh17:OkH1 Go.Proofs.Try.prog 17 h17:=⟨Go.Proofs.Try.f17,_,hintsH h17.body,Go.Proofs.Try.func17,by kernel_rfl,rfl,by decide,by decide,by kernel_rfl,by kernel_rfl⟩
theorem toh18:OkH1 Go.Proofs.Try.prog 18 h18:=⟨Go.Proofs.Try.f18,_,hintsH h18.body,Go.Proofs.Try.func18,by kernel_rfl,rfl,by decide,by decide,by kernel_rfl,by kernel_rfl⟩
theorem toh19:OkH1 Go.Proofs.Try.prog 19 h19:=⟨Go.Proofs.Try.f19,_,hintsH h19.body,Go.Proofs.Try.func19,by kernel_rfl,rfl,by decide,by decide,by kernel_rfl,by kernel_rfl⟩
theorem toh20:OkH1 Go.Proofs.Try.prog 20 h20:=⟨Go.Proofs.Try.f20,_,hintsH h20.body,Go.Proofs.Try.func20,by kernel_rfl,rfl,by decide,by decide,by kernel_rfl,by kernel_rfl⟩
theorem toh21:OkH1 Go.Proofs.Try.prog 21 h21:=⟨Go.Proofs.Try.f21,_,hintsH h21.body,Go.Proofs.Try.func21,by kernel_rfl,rfl,by decide,by decide,by kernel_rfl,by kernel_rfl⟩
theorem toh22:OkH1 Go.Proofs.Try.prog 22 h22:=⟨Go.Proofs.Try.f22,_,hintsH h22.body,Go.Proofs.Try.func22,by kernel_rfl,rfl,by decide,by decide,by kernel_rfl,by kernel_rfl⟩
theorem toh23:OkH1 Go.Proofs.Try.prog 23 h23:=⟨Go.Proofs.Try.f23,_,hintsH h23.body,Go.Proofs.Try.func23,by kernel_rfl,rfl,by decide,by decide,by kernel_rfl,by kernel_rfl⟩
theorem toh24:OkH1 Go.Proofs.Try.prog 24 h24:=⟨Go.Proofs.Try.f24,_,hintsH h24.body,Go.Proofs.Try.func24,by kernel_rfl,rfl,by decide,by decide,by kernel_rfl,by kernel_rfl⟩
theorem toh27:OkH1 Go.Proofs.Try.prog 27 h27:=⟨Go.Proofs.Try.f27,_,hintsH h27.body,Go.Proofs.Try.func27,by kernel_rfl,rfl,by decide,by decide,by kernel_rfl,by kernel_rfl⟩
theorem toh29:OkH1 Go.Proofs.Try.prog 29 h29:=⟨Go.Proofs.Try.f29,_,hintsH h29.body,Go.Proofs.Try.func29,by kernel_rfl,rfl,by decide,by decide,by kernel_rfl,by kernel_rfl⟩
theorem toh32:OkH1 Go.Proofs.Try.prog 32 h32:=⟨Go.Proofs.Try.f32,_,hintsH h32.body,Go.Proofs.Try.func32,by kernel_rfl,rfl,by decide,by decide,by kernel_rfl,by kernel_rfl⟩
theorem toh35:OkH1 Go.Proofs.Try.prog 35 h35:=⟨Go.Proofs.Try.f35,_,hintsH h35.body,Go.Proofs.Try.func35,by kernel_rfl,rfl,by decide,by decide,by kernel_rfl,by kernel_rfl⟩
theorem toh64:OkH1 Go.Proofs.Try.prog 64 h64:=⟨Go.Proofs.Try.f64,_,hintsH h64.body,Go.Proofs.Try.func64,by kernel_rfl,rfl,by decide,by decide,by kernel_rfl,by kernel_rfl⟩
theorem toh65:OkH1 Go.Proofs.Try.prog 65 h65:=⟨Go.Proofs.Try.f65,_,hintsH h65.body,Go.Proofs.Try.func65,by kernel_rfl,rfl,by decide,by decide,by kernel_rfl,by kernel_rfl⟩
theorem toh66:OkH1 Go.Proofs.Try.prog 66 h66:=⟨Go.Proofs.Try.f66,_,hintsH h66.body,Go.Proofs.Try.func66,by kernel_rfl,rfl,by decide,by decide,by kernel_rfl,by kernel_rfl⟩
theorem toh67:OkH1 Go.Proofs.Try.prog 67 h67:=⟨Go.Proofs.Try.f67,_,hintsH h67.body,Go.Proofs.Try.func67,by kernel_rfl,rfl,by decide,by decide,by kernel_rfl,by kernel_rfl⟩
theorem toh68:OkH1 Go.Proofs.Try.prog 68 h68:=⟨Go.Proofs.Try.f68,_,hintsH h68.body,Go.Proofs.Try.func68,by kernel_rfl,rfl,by decide,by decide,by kernel_rfl,by kernel_rfl⟩
theorem toh69:OkH1 Go.Proofs.Try.prog 69 h69:=⟨Go.Proofs.Try.f69,_,hintsH h69.body,Go.Proofs.Try.func69,by kernel_rfl,rfl,by decide,by decide,by kernel_rfl,by kernel_rfl⟩
theorem toh70:OkH1 Go.Proofs.Try.prog 70 h70:=⟨Go.Proofs.Try.f70,_,hintsH h70.body,Go.Proofs.Try.func70,by kernel_rfl,rfl,by decide,by decide,by kernel_rfl,by kernel_rfl⟩
theorem toh71:OkH1 Go.Proofs.Try.prog 71 h71:=⟨Go.Proofs.Try.f71,_,hintsH h71.body,Go.Proofs.Try.func71,by kernel_rfl,rfl,by decide,by decide,by kernel_rfl,by kernel_rfl⟩
theorem toh72:OkH1 Go.Proofs.Try.prog 72 h72:=⟨Go.Proofs.Try.f72,_,hintsH h72.body,Go.Proofs.Try.func72,by kernel_rfl,rfl,by decide,by decide,by kernel_rfl,by kernel_rfl⟩
theorem toh73:OkH1 Go.Proofs.Try.prog 73 h73:=⟨Go.Proofs.Try.f73,_,hintsH h73.body,Go.Proofs.Try.func73,by kernel_rfl,rfl,by decide,by decide,by kernel_rfl,by kernel_rfl⟩
theorem toh74:OkH1 Go.Proofs.Try.prog 74 h74:=⟨Go.Proofs.Try.f74,_,hintsH h74.body,Go.Proofs.Try.func74,by kernel_rfl,rfl,by decide,by decide,by kernel_rfl,by kernel_rfl⟩
theorem toh75:OkH1 Go.Proofs.Try.prog 75 h75:=⟨Go.Proofs.Try.f75,_,hintsH h75.body,Go.Proofs.Try.func75,by kernel_rfl,rfl,by decide,by decide,by kernel_rfl,by kernel_rfl⟩
theorem toh76:OkH1 Go.Proofs.Try.prog 76 h76:=⟨Go.Proofs.Try.f76,_,hintsH h76.body,Go.Proofs.Try.func76,by kernel_rfl,rfl,by decide,by decide,by kernel_rfl,by kernel_rfl⟩
theorem toh77:OkH1 Go.Proofs.Try.prog 77 h77:=⟨Go.Proofs.Try.f77,_,hintsH h77.body,Go.Proofs.Try.func77,by kernel_rfl,rfl,by decide,by decide,by kernel_rfl,by kernel_rfl⟩
theorem toh78:OkH1 Go.Proofs.Try.prog 78 h78:=⟨Go.Proofs.Try.f78,_,hintsH h78.body,Go.Proofs.Try.func78,by kernel_rfl,rfl,by decide,by decide,by kernel_rfl,by kernel_rfl⟩
theorem toh79:OkH1 Go.Proofs.Try.prog 79 h79:=⟨Go.Proofs.Try.f79,_,hintsH h79.body,Go.Proofs.Try.func79,by kernel_rfl,rfl,by decide,by decide,by kernel_rfl,by kernel_rfl⟩
theorem toh80:OkH1 Go.Proofs.Try.prog 80 h80:=⟨Go.Proofs.Try.f80,_,hintsH h80.body,Go.Proofs.Try.func80,by kernel_rfl,rfl,by decide,by decide,by kernel_rfl,by kernel_rfl⟩
theorem toh81:OkH1 Go.Proofs.Try.prog 81 h81:=⟨Go.Proofs.Try.f81,_,hintsH h81.body,Go.Proofs.Try.func81,by kernel_rfl,rfl,by decide,by decide,by kernel_rfl,by kernel_rfl⟩
theorem toh86:OkH1 Go.Proofs.Try.prog 86 h86:=⟨Go.Proofs.Try.f86,_,hintsH h86.body,Go.Proofs.Try.func86,by kernel_rfl,rfl,by decide,by decide,by kernel_rfl,by kernel_rfl⟩
theorem toh97:OkH1 Go.Proofs.Try.prog 97 h97:=⟨Go.Proofs.Try.f97,_,hintsH h97.body,Go.Proofs.Try.func97,by kernel_rfl,rfl,by decide,by decide,by kernel_rfl,by kernel_rfl⟩
theorem toh98:OkH1 Go.Proofs.Try.prog 98 h98:=⟨Go.Proofs.Try.f98,_,hintsH h98.body,Go.Proofs.Try.func98,by kernel_rfl,rfl,by decide,by decide,by kernel_rfl,by kernel_rfl⟩
theorem toh113:OkH1 Go.Proofs.Try.prog 113 h113:=⟨Go.Proofs.Try.f113,_,hintsH h113.body,Go.Proofs.Try.func113,by kernel_rfl,rfl,by decide,by decide,by kernel_rfl,by kernel_rfl⟩
theorem toh114:OkH1 Go.Proofs.Try.prog 114 h114:=⟨Go.Proofs.Try.f114,_,hintsH h114.body,Go.Proofs.Try.func114,by kernel_rfl,rfl,by decide,by decide,by kernel_rfl,by kernel_rfl⟩
theorem toh115:OkH1 Go.Proofs.Try.prog 115 h115:=⟨Go.Proofs.Try.f115,_,hintsH h115.body,Go.Proofs.Try.func115,by kernel_rfl,rfl,by decide,by decide,by kernel_rfl,by kernel_rfl⟩
theorem toh116:OkH1 Go.Proofs.Try.prog 116 h116:=⟨Go.Proofs.Try.f116,_,hintsH h116.body,Go.Proofs.Try.func116,by kernel_rfl,rfl,by decide,by decide,by kernel_rfl,by kernel_rfl⟩
theorem toh120:OkH1 Go.Proofs.Try.prog 120 h120:=⟨Go.Proofs.Try.f120,_,hintsH h120.body,Go.Proofs.Try.func120,by kernel_rfl,rfl,by decide,by decide,by kernel_rfl,by kernel_rfl⟩
theorem tokTH:TOkH Go.Proofs.Try.prog TH:=tok_of (l:=TL) ⟨toh3,toh15,toh16,toh17,toh18,toh19,toh20,toh21,toh22,toh23,toh24,toh27,toh29,toh32,toh35,toh64,toh65,toh66,toh67,toh68,toh69,toh70,toh71,toh72,toh73,toh74,toh75,toh76,toh77,toh78,toh79,toh80,toh81,toh86,toh97,toh98,toh113,toh114,toh115,toh116,toh120,trivial⟩
end Go.Ab
namespace Go.Ab
open Go
theorem ks2Ok:HCallOk Go.Proofs.Try.prog (evHI C0 KS2 TH):=ks2Ok' mixed tok tokTH
theorem okOp_of {o:l26_Op} (h:Rl26_Op o):OkOp o:=by
  obtain ⟨_,h2,h3,h4,h5,h6⟩:=h
  have:=h2.u8;have:=h3.u8;have:=h4.u8;have:=h5.u8;have:=h6.u16
  exact ⟨by omega,by omega,by omega,by omega,by omega⟩
end Go.Ab
namespace Go.Ab
open Go
theorem spaceAlike (x1:Int) (x2:List l26_Op) (x3 x4:List Int) (r1:Rng .u8 x1) (r2:x2.length < 140737488355328 ∧ ∀ y ∈ x2,Rl26_Op y) (r3:x3.length < 140737488355328 ∧ ∀ y ∈ x3,Rng .u8 y) (r4:x4.length < 140737488355328 ∧ ∀ y ∈ x4,Rng .u8 y):∃ st',evHI C0 KS2 TH 3 ([PV.int .u8 x1,PV.sl x2.length (x2.flatMap cl26_Op),PV.sl x3.length (x3.flatMap (cint .u8)),PV.sl x4.length (x4.flatMap (cint .u8))].map .p) []=some (.p (.bool true),st') :=
  spaceAlike1 r1.u8 x2 (fun o ho=>okOp_of (r2.2 o ho)) r2.1 x3 (fun v hv=>by have:=(r3.2 v hv).u8;omega) x4 (fun v hv=>by have:=(r4.2 v hv).u8;omega)
end Go.Ab
